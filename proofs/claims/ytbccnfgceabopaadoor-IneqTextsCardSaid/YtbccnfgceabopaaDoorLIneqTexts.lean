/- IneqTexts holds for every input: two inequalities that may be have the same text just if they are the same. Conditions: the variables that the row lists are laid as the program's text lays them. -/
import Derived.Test.YtbccnfgceabopaaDoorIneqW
import Derived.Test.YtbccnfgceabopaaDoorRowQ
import Derived.Test.YtbccnfgceabopaaDoorRowD
import Derived.BigQuiet
import Derived.Lib.QuietBelow
namespace Go.Proofs.YtbccnfgceabopaaDoor
set_option linter.unusedVariables false
set_option linter.unusedSimpArgs false
open Go.ChangeShapes Go.WideShapes Go.ChangeAt Go.RowKit

theorem textX_at {x : IneqD} (hx : mayX x = true) (s : ByteArray) (hs : textX x = s) (w : World) (ht : Tab w) :
    Calls Tryd.prog 15 #[.agg #[.int .i64 x.lv, .int .u8 x.lc, .int .u8 x.c, .int .i64 x.r]] w fun e w' => e = .returned (.string s) ∧ Below w.heap.size w w' := by
  have h := mayX_bounds hx
  rw [← hs]
  exact ineqText_any x.lv x.lc x.c x.r w ht (by omega) (by omega)


set_option maxRecDepth 100000 in
set_option maxHeartbeats 1000000 in
theorem walkA_ineqTexts (w : World) (ht : Tab w) (x y : IneqD) :
    Calls Tryd.prog 7 #[.agg #[.int .i64 x.lv, .int .u8 x.lc, .int .u8 x.c, .int .i64 x.r], .agg #[.int .i64 y.lv, .int .u8 y.lc, .int .u8 y.c, .int .i64 y.r]] w fun e w' => e = .returned (.bool true) ∧ Below w.heap.size w w' := by
  have Ht := Lib.hid ht
  clear ht
  cases hx : mayX x
  · have HMX := Lib.hid (mayQE_no hx)
    clear hx
    have hX := (blk_new w #[.int .i64 x.lv, .int .u8 x.lc, .int .u8 x.c, .int .i64 x.r] 36).alloc (Obj.cells #[.int .i64 y.lv, .int .u8 y.lc, .int .u8 y.c, .int .i64 y.r] 36)
    have hY := blk_new (w.alloc (Obj.cells #[.int .i64 x.lv, .int .u8 x.lc, .int .u8 x.c, .int .i64 x.r] 36)) #[.int .i64 y.lv, .int .u8 y.lc, .int .u8 y.c, .int .i64 y.r] 36
    rw [show (w.alloc (Obj.cells #[.int .i64 x.lv, .int .u8 x.lc, .int .u8 x.c, .int .i64 x.r] 36)).heap.size = w.heap.size + 1 by simp] at hY
    have hb0 : Below w.heap.size w ((w.alloc (Obj.cells #[.int .i64 x.lv, .int .u8 x.lc, .int .u8 x.c, .int .i64 x.r] 36)).alloc (Obj.cells #[.int .i64 y.lv, .int .u8 y.lc, .int .u8 y.c, .int .i64 y.r] 36)) := ((Below.refl _ _).alloc (Nat.le_refl _) _).alloc (by simp) _
    go_enter Tryd.func7, Tryd.ntmps7
    go_wp2_with fail
    refine (mayQ_at HMX.out _).mono ?_; rintro e w1 ⟨rfl, hb1⟩
    have hw1 := hb0.trans (hb1.mono hb0.size)
    have hX1 := hX.below hb1 hX.lt
    have hY1 := hY.below hb1 hY.lt
    clear hX hY hb0 hb1
    go_wp2_with fail
    refine (worksQ_any w1 (Ht.out.below hw1)).mono ?_; rintro e w8 ⟨rfl, hb8⟩
    go_wp2_with fail
    go_ret
    exact ⟨rfl, hw1.trans (hb8.mono hw1.size)⟩
  · have HMX := Lib.hid (mayQE_yes hx)
    cases hy : mayX y
    · have HMY := Lib.hid (mayQE_no hy)
      clear hx hy
      have hX := (blk_new w #[.int .i64 x.lv, .int .u8 x.lc, .int .u8 x.c, .int .i64 x.r] 36).alloc (Obj.cells #[.int .i64 y.lv, .int .u8 y.lc, .int .u8 y.c, .int .i64 y.r] 36)
      have hY := blk_new (w.alloc (Obj.cells #[.int .i64 x.lv, .int .u8 x.lc, .int .u8 x.c, .int .i64 x.r] 36)) #[.int .i64 y.lv, .int .u8 y.lc, .int .u8 y.c, .int .i64 y.r] 36
      rw [show (w.alloc (Obj.cells #[.int .i64 x.lv, .int .u8 x.lc, .int .u8 x.c, .int .i64 x.r] 36)).heap.size = w.heap.size + 1 by simp] at hY
      have hb0 : Below w.heap.size w ((w.alloc (Obj.cells #[.int .i64 x.lv, .int .u8 x.lc, .int .u8 x.c, .int .i64 x.r] 36)).alloc (Obj.cells #[.int .i64 y.lv, .int .u8 y.lc, .int .u8 y.c, .int .i64 y.r] 36)) := ((Below.refl _ _).alloc (Nat.le_refl _) _).alloc (by simp) _
      go_enter Tryd.func7, Tryd.ntmps7
      go_wp2_with fail
      refine (mayQ_at HMX.out _).mono ?_; rintro e w1 ⟨rfl, hb1⟩
      have hw1 := hb0.trans (hb1.mono hb0.size)
      have hX1 := hX.below hb1 hX.lt
      have hY1 := hY.below hb1 hY.lt
      clear hX hY hb0 hb1
      have y0 : w1.cell? ⟨w.heap.size + 1, 0, none⟩ = some (.int .i64 y.lv) := hY1.cell 0
      have y1 : w1.cell? ⟨w.heap.size + 1, 1, none⟩ = some (.int .u8 y.lc) := hY1.cell 1
      have y2 : w1.cell? ⟨w.heap.size + 1, 2, none⟩ = some (.int .u8 y.c) := hY1.cell 2
      have y3 : w1.cell? ⟨w.heap.size + 1, 3, none⟩ = some (.int .i64 y.r) := hY1.cell 3
      go_wp2_with fail
      refine (mayQ_at HMY.out _).mono ?_; rintro e w2 ⟨rfl, hb2⟩
      have hw2 := hw1.trans (hb2.mono hw1.size)
      have hX2 := hX1.below hb2 hX1.lt
      have hY2 := hY1.below hb2 hY1.lt
      clear hX1 hY1 hb2 y0 y1 y2 y3
      go_wp2_with fail
      refine (worksQ_any w2 (Ht.out.below hw2)).mono ?_; rintro e w8 ⟨rfl, hb8⟩
      go_wp2_with fail
      go_ret
      exact ⟨rfl, hw2.trans (hb8.mono hw2.size)⟩
    · have HMY := Lib.hid (mayQE_yes hy)
      have HX := Lib.hid hx
      have HY := Lib.hid hy
      clear hx hy
      by_cases hxy : x = y
      · subst hxy
        obtain ⟨s, hs⟩ : ∃ s, textX x = s := ⟨_, rfl⟩
        have Hs := Lib.hid hs
        clear hs
        have hX := (blk_new w #[.int .i64 x.lv, .int .u8 x.lc, .int .u8 x.c, .int .i64 x.r] 36).alloc (Obj.cells #[.int .i64 x.lv, .int .u8 x.lc, .int .u8 x.c, .int .i64 x.r] 36)
        have hY := blk_new (w.alloc (Obj.cells #[.int .i64 x.lv, .int .u8 x.lc, .int .u8 x.c, .int .i64 x.r] 36)) #[.int .i64 x.lv, .int .u8 x.lc, .int .u8 x.c, .int .i64 x.r] 36
        rw [show (w.alloc (Obj.cells #[.int .i64 x.lv, .int .u8 x.lc, .int .u8 x.c, .int .i64 x.r] 36)).heap.size = w.heap.size + 1 by simp] at hY
        have hb0 : Below w.heap.size w ((w.alloc (Obj.cells #[.int .i64 x.lv, .int .u8 x.lc, .int .u8 x.c, .int .i64 x.r] 36)).alloc (Obj.cells #[.int .i64 x.lv, .int .u8 x.lc, .int .u8 x.c, .int .i64 x.r] 36)) := ((Below.refl _ _).alloc (Nat.le_refl _) _).alloc (by simp) _
        go_enter Tryd.func7, Tryd.ntmps7
        go_wp2_with fail
        refine (mayQ_at HMX.out _).mono ?_; rintro e w1 ⟨rfl, hb1⟩
        have hw1 := hb0.trans (hb1.mono hb0.size)
        have hX1 := hX.below hb1 hX.lt
        have hY1 := hY.below hb1 hY.lt
        clear hX hY hb0 hb1
        have y0 : w1.cell? ⟨w.heap.size + 1, 0, none⟩ = some (.int .i64 x.lv) := hY1.cell 0
        have y1 : w1.cell? ⟨w.heap.size + 1, 1, none⟩ = some (.int .u8 x.lc) := hY1.cell 1
        have y2 : w1.cell? ⟨w.heap.size + 1, 2, none⟩ = some (.int .u8 x.c) := hY1.cell 2
        have y3 : w1.cell? ⟨w.heap.size + 1, 3, none⟩ = some (.int .i64 x.r) := hY1.cell 3
        go_wp2_with fail
        refine (mayQ_at HMY.out _).mono ?_; rintro e w2 ⟨rfl, hb2⟩
        have hw2 := hw1.trans (hb2.mono hw1.size)
        have hX2 := hX1.below hb2 hX1.lt
        have hY2 := hY1.below hb2 hY1.lt
        clear hX1 hY1 hb2 y0 y1 y2 y3
        have x0 : w2.cell? ⟨w.heap.size, 0, none⟩ = some (.int .i64 x.lv) := hX2.cell 0
        have x1 : w2.cell? ⟨w.heap.size, 1, none⟩ = some (.int .u8 x.lc) := hX2.cell 1
        have x2 : w2.cell? ⟨w.heap.size, 2, none⟩ = some (.int .u8 x.c) := hX2.cell 2
        have x3 : w2.cell? ⟨w.heap.size, 3, none⟩ = some (.int .i64 x.r) := hX2.cell 3
        have y0 : w2.cell? ⟨w.heap.size + 1, 0, none⟩ = some (.int .i64 x.lv) := hY2.cell 0
        have y1 : w2.cell? ⟨w.heap.size + 1, 1, none⟩ = some (.int .u8 x.lc) := hY2.cell 1
        have y2 : w2.cell? ⟨w.heap.size + 1, 2, none⟩ = some (.int .u8 x.c) := hY2.cell 2
        have y3 : w2.cell? ⟨w.heap.size + 1, 3, none⟩ = some (.int .i64 x.r) := hY2.cell 3
        have kx0 := fun d os => cell_regrown x0 d os
        have kx1 := fun d os => cell_regrown x1 d os
        have kx2 := fun d os => cell_regrown x2 d os
        have kx3 := fun d os => cell_regrown x3 d os
        have ky0 := fun d os => cell_regrown y0 d os
        have ky1 := fun d os => cell_regrown y1 d os
        have ky2 := fun d os => cell_regrown y2 d os
        have ky3 := fun d os => cell_regrown y3 d os
        have Ht2 := Lib.hid (Ht.out.below hw2)
        clear x0 x1 x2 x3 y0 y1 y2 y3 hX2 hY2
        go_wp2_with fail
        refine wp_region_quiet_below (by kernel_rfl) (by kernel_rfl) ?_
        repeat (go_big_quiet_step ((first | (go_at_call 15; exact Calls.regrown_of (textX_at HX.out s Hs.out _ (Ht2.out.below (below_regrown _ _ _)))) | (go_at_call 13; exact Calls.regrown_of (worksQ_any _ (Ht2.out.below (below_regrown _ _ _)))))))
        refine wpQuiet_nil ?_
        intro _ hw'
        obtain ⟨⟨dq, osq⟩, hw''⟩ := hw'
        subst hw''
        go_wp2_with fail
        go_ret
        exact ⟨rfl, hw2.trans ((below_regrown _ _ _).mono hw2.size)⟩
      · have hne : ¬ textX x = textX y := fun e => hxy (textX_inj HX.out HY.out e)
        obtain ⟨s, hs⟩ : ∃ s, textX x = s := ⟨_, rfl⟩
        obtain ⟨s', hs'⟩ : ∃ s, textX y = s := ⟨_, rfl⟩
        rw [hs, hs'] at hne
        have Hs := Lib.hid hs
        have Hs' := Lib.hid hs'
        have hd : (s.toList == s'.toList) = false := by rw [str_eq]; simpa using hne
        clear hs hs' hne
        by_cases q0 : x.lv = y.lv
        · have d0 : (x.lv == y.lv) = true := by simpa using q0
          by_cases q1 : x.lc = y.lc
          · have d1 : (x.lc == y.lc) = true := by simpa using q1
            by_cases q2 : x.c = y.c
            · have d2 : (x.c == y.c) = true := by simpa using q2
              have d3 : (x.r == y.r) = false := by
                have : ¬ x.r = y.r := fun e => hxy (by obtain ⟨a, b, c, d⟩ := x; obtain ⟨a', b', c', d'⟩ := y; simp at q0 q1 q2 e; rw [q0, q1, q2, e])
                simpa using this
              clear q0 q1 q2 hxy
              have hX := (blk_new w #[.int .i64 x.lv, .int .u8 x.lc, .int .u8 x.c, .int .i64 x.r] 36).alloc (Obj.cells #[.int .i64 y.lv, .int .u8 y.lc, .int .u8 y.c, .int .i64 y.r] 36)
              have hY := blk_new (w.alloc (Obj.cells #[.int .i64 x.lv, .int .u8 x.lc, .int .u8 x.c, .int .i64 x.r] 36)) #[.int .i64 y.lv, .int .u8 y.lc, .int .u8 y.c, .int .i64 y.r] 36
              rw [show (w.alloc (Obj.cells #[.int .i64 x.lv, .int .u8 x.lc, .int .u8 x.c, .int .i64 x.r] 36)).heap.size = w.heap.size + 1 by simp] at hY
              have hb0 : Below w.heap.size w ((w.alloc (Obj.cells #[.int .i64 x.lv, .int .u8 x.lc, .int .u8 x.c, .int .i64 x.r] 36)).alloc (Obj.cells #[.int .i64 y.lv, .int .u8 y.lc, .int .u8 y.c, .int .i64 y.r] 36)) := ((Below.refl _ _).alloc (Nat.le_refl _) _).alloc (by simp) _
              go_enter Tryd.func7, Tryd.ntmps7
              go_wp2_with fail
              refine (mayQ_at HMX.out _).mono ?_; rintro e w1 ⟨rfl, hb1⟩
              have hw1 := hb0.trans (hb1.mono hb0.size)
              have hX1 := hX.below hb1 hX.lt
              have hY1 := hY.below hb1 hY.lt
              clear hX hY hb0 hb1
              have y0 : w1.cell? ⟨w.heap.size + 1, 0, none⟩ = some (.int .i64 y.lv) := hY1.cell 0
              have y1 : w1.cell? ⟨w.heap.size + 1, 1, none⟩ = some (.int .u8 y.lc) := hY1.cell 1
              have y2 : w1.cell? ⟨w.heap.size + 1, 2, none⟩ = some (.int .u8 y.c) := hY1.cell 2
              have y3 : w1.cell? ⟨w.heap.size + 1, 3, none⟩ = some (.int .i64 y.r) := hY1.cell 3
              go_wp2_with fail
              refine (mayQ_at HMY.out _).mono ?_; rintro e w2 ⟨rfl, hb2⟩
              have hw2 := hw1.trans (hb2.mono hw1.size)
              have hX2 := hX1.below hb2 hX1.lt
              have hY2 := hY1.below hb2 hY1.lt
              clear hX1 hY1 hb2 y0 y1 y2 y3
              have x0 : w2.cell? ⟨w.heap.size, 0, none⟩ = some (.int .i64 x.lv) := hX2.cell 0
              have x1 : w2.cell? ⟨w.heap.size, 1, none⟩ = some (.int .u8 x.lc) := hX2.cell 1
              have x2 : w2.cell? ⟨w.heap.size, 2, none⟩ = some (.int .u8 x.c) := hX2.cell 2
              have x3 : w2.cell? ⟨w.heap.size, 3, none⟩ = some (.int .i64 x.r) := hX2.cell 3
              have y0 : w2.cell? ⟨w.heap.size + 1, 0, none⟩ = some (.int .i64 y.lv) := hY2.cell 0
              have y1 : w2.cell? ⟨w.heap.size + 1, 1, none⟩ = some (.int .u8 y.lc) := hY2.cell 1
              have y2 : w2.cell? ⟨w.heap.size + 1, 2, none⟩ = some (.int .u8 y.c) := hY2.cell 2
              have y3 : w2.cell? ⟨w.heap.size + 1, 3, none⟩ = some (.int .i64 y.r) := hY2.cell 3
              have kx0 := fun d os => cell_regrown x0 d os
              have kx1 := fun d os => cell_regrown x1 d os
              have kx2 := fun d os => cell_regrown x2 d os
              have kx3 := fun d os => cell_regrown x3 d os
              have ky0 := fun d os => cell_regrown y0 d os
              have ky1 := fun d os => cell_regrown y1 d os
              have ky2 := fun d os => cell_regrown y2 d os
              have ky3 := fun d os => cell_regrown y3 d os
              have Ht2 := Lib.hid (Ht.out.below hw2)
              clear x0 x1 x2 x3 y0 y1 y2 y3 hX2 hY2
              go_wp2_with fail
              refine wp_region_quiet_below (by kernel_rfl) (by kernel_rfl) ?_
              repeat (go_big_quiet_step ((first | (go_at_call_of 15 #[Value.agg #[Value.int IntKind.i64 x.lv, Value.int IntKind.u8 x.lc, Value.int IntKind.u8 x.c, Value.int IntKind.i64 x.r]]; exact Calls.regrown_of (textX_at HX.out s Hs.out _ (Ht2.out.below (below_regrown _ _ _)))) | (go_at_call_of 15 #[Value.agg #[Value.int IntKind.i64 y.lv, Value.int IntKind.u8 y.lc, Value.int IntKind.u8 y.c, Value.int IntKind.i64 y.r]]; exact Calls.regrown_of (textX_at HY.out s' Hs'.out _ (Ht2.out.below (below_regrown _ _ _)))) | (go_at_call 13; exact Calls.regrown_of (worksQ_any _ (Ht2.out.below (below_regrown _ _ _)))))))
              refine wpQuiet_nil ?_
              intro _ hw'
              obtain ⟨⟨dq, osq⟩, hw''⟩ := hw'
              subst hw''
              go_wp2_with fail
              go_ret
              exact ⟨rfl, hw2.trans ((below_regrown _ _ _).mono hw2.size)⟩
            · have d2 : (x.c == y.c) = false := by simpa using q2
              clear q0 q1 q2 hxy
              have hX := (blk_new w #[.int .i64 x.lv, .int .u8 x.lc, .int .u8 x.c, .int .i64 x.r] 36).alloc (Obj.cells #[.int .i64 y.lv, .int .u8 y.lc, .int .u8 y.c, .int .i64 y.r] 36)
              have hY := blk_new (w.alloc (Obj.cells #[.int .i64 x.lv, .int .u8 x.lc, .int .u8 x.c, .int .i64 x.r] 36)) #[.int .i64 y.lv, .int .u8 y.lc, .int .u8 y.c, .int .i64 y.r] 36
              rw [show (w.alloc (Obj.cells #[.int .i64 x.lv, .int .u8 x.lc, .int .u8 x.c, .int .i64 x.r] 36)).heap.size = w.heap.size + 1 by simp] at hY
              have hb0 : Below w.heap.size w ((w.alloc (Obj.cells #[.int .i64 x.lv, .int .u8 x.lc, .int .u8 x.c, .int .i64 x.r] 36)).alloc (Obj.cells #[.int .i64 y.lv, .int .u8 y.lc, .int .u8 y.c, .int .i64 y.r] 36)) := ((Below.refl _ _).alloc (Nat.le_refl _) _).alloc (by simp) _
              go_enter Tryd.func7, Tryd.ntmps7
              go_wp2_with fail
              refine (mayQ_at HMX.out _).mono ?_; rintro e w1 ⟨rfl, hb1⟩
              have hw1 := hb0.trans (hb1.mono hb0.size)
              have hX1 := hX.below hb1 hX.lt
              have hY1 := hY.below hb1 hY.lt
              clear hX hY hb0 hb1
              have y0 : w1.cell? ⟨w.heap.size + 1, 0, none⟩ = some (.int .i64 y.lv) := hY1.cell 0
              have y1 : w1.cell? ⟨w.heap.size + 1, 1, none⟩ = some (.int .u8 y.lc) := hY1.cell 1
              have y2 : w1.cell? ⟨w.heap.size + 1, 2, none⟩ = some (.int .u8 y.c) := hY1.cell 2
              have y3 : w1.cell? ⟨w.heap.size + 1, 3, none⟩ = some (.int .i64 y.r) := hY1.cell 3
              go_wp2_with fail
              refine (mayQ_at HMY.out _).mono ?_; rintro e w2 ⟨rfl, hb2⟩
              have hw2 := hw1.trans (hb2.mono hw1.size)
              have hX2 := hX1.below hb2 hX1.lt
              have hY2 := hY1.below hb2 hY1.lt
              clear hX1 hY1 hb2 y0 y1 y2 y3
              have x0 : w2.cell? ⟨w.heap.size, 0, none⟩ = some (.int .i64 x.lv) := hX2.cell 0
              have x1 : w2.cell? ⟨w.heap.size, 1, none⟩ = some (.int .u8 x.lc) := hX2.cell 1
              have x2 : w2.cell? ⟨w.heap.size, 2, none⟩ = some (.int .u8 x.c) := hX2.cell 2
              have x3 : w2.cell? ⟨w.heap.size, 3, none⟩ = some (.int .i64 x.r) := hX2.cell 3
              have y0 : w2.cell? ⟨w.heap.size + 1, 0, none⟩ = some (.int .i64 y.lv) := hY2.cell 0
              have y1 : w2.cell? ⟨w.heap.size + 1, 1, none⟩ = some (.int .u8 y.lc) := hY2.cell 1
              have y2 : w2.cell? ⟨w.heap.size + 1, 2, none⟩ = some (.int .u8 y.c) := hY2.cell 2
              have y3 : w2.cell? ⟨w.heap.size + 1, 3, none⟩ = some (.int .i64 y.r) := hY2.cell 3
              have kx0 := fun d os => cell_regrown x0 d os
              have kx1 := fun d os => cell_regrown x1 d os
              have kx2 := fun d os => cell_regrown x2 d os
              have kx3 := fun d os => cell_regrown x3 d os
              have ky0 := fun d os => cell_regrown y0 d os
              have ky1 := fun d os => cell_regrown y1 d os
              have ky2 := fun d os => cell_regrown y2 d os
              have ky3 := fun d os => cell_regrown y3 d os
              have Ht2 := Lib.hid (Ht.out.below hw2)
              clear x0 x1 x2 x3 y0 y1 y2 y3 hX2 hY2
              go_wp2_with fail
              refine wp_region_quiet_below (by kernel_rfl) (by kernel_rfl) ?_
              repeat (go_big_quiet_step ((first | (go_at_call_of 15 #[Value.agg #[Value.int IntKind.i64 x.lv, Value.int IntKind.u8 x.lc, Value.int IntKind.u8 x.c, Value.int IntKind.i64 x.r]]; exact Calls.regrown_of (textX_at HX.out s Hs.out _ (Ht2.out.below (below_regrown _ _ _)))) | (go_at_call_of 15 #[Value.agg #[Value.int IntKind.i64 y.lv, Value.int IntKind.u8 y.lc, Value.int IntKind.u8 y.c, Value.int IntKind.i64 y.r]]; exact Calls.regrown_of (textX_at HY.out s' Hs'.out _ (Ht2.out.below (below_regrown _ _ _)))) | (go_at_call 13; exact Calls.regrown_of (worksQ_any _ (Ht2.out.below (below_regrown _ _ _)))))))
              refine wpQuiet_nil ?_
              intro _ hw'
              obtain ⟨⟨dq, osq⟩, hw''⟩ := hw'
              subst hw''
              go_wp2_with fail
              go_ret
              exact ⟨rfl, hw2.trans ((below_regrown _ _ _).mono hw2.size)⟩
          · have d1 : (x.lc == y.lc) = false := by simpa using q1
            clear q0 q1 hxy
            have hX := (blk_new w #[.int .i64 x.lv, .int .u8 x.lc, .int .u8 x.c, .int .i64 x.r] 36).alloc (Obj.cells #[.int .i64 y.lv, .int .u8 y.lc, .int .u8 y.c, .int .i64 y.r] 36)
            have hY := blk_new (w.alloc (Obj.cells #[.int .i64 x.lv, .int .u8 x.lc, .int .u8 x.c, .int .i64 x.r] 36)) #[.int .i64 y.lv, .int .u8 y.lc, .int .u8 y.c, .int .i64 y.r] 36
            rw [show (w.alloc (Obj.cells #[.int .i64 x.lv, .int .u8 x.lc, .int .u8 x.c, .int .i64 x.r] 36)).heap.size = w.heap.size + 1 by simp] at hY
            have hb0 : Below w.heap.size w ((w.alloc (Obj.cells #[.int .i64 x.lv, .int .u8 x.lc, .int .u8 x.c, .int .i64 x.r] 36)).alloc (Obj.cells #[.int .i64 y.lv, .int .u8 y.lc, .int .u8 y.c, .int .i64 y.r] 36)) := ((Below.refl _ _).alloc (Nat.le_refl _) _).alloc (by simp) _
            go_enter Tryd.func7, Tryd.ntmps7
            go_wp2_with fail
            refine (mayQ_at HMX.out _).mono ?_; rintro e w1 ⟨rfl, hb1⟩
            have hw1 := hb0.trans (hb1.mono hb0.size)
            have hX1 := hX.below hb1 hX.lt
            have hY1 := hY.below hb1 hY.lt
            clear hX hY hb0 hb1
            have y0 : w1.cell? ⟨w.heap.size + 1, 0, none⟩ = some (.int .i64 y.lv) := hY1.cell 0
            have y1 : w1.cell? ⟨w.heap.size + 1, 1, none⟩ = some (.int .u8 y.lc) := hY1.cell 1
            have y2 : w1.cell? ⟨w.heap.size + 1, 2, none⟩ = some (.int .u8 y.c) := hY1.cell 2
            have y3 : w1.cell? ⟨w.heap.size + 1, 3, none⟩ = some (.int .i64 y.r) := hY1.cell 3
            go_wp2_with fail
            refine (mayQ_at HMY.out _).mono ?_; rintro e w2 ⟨rfl, hb2⟩
            have hw2 := hw1.trans (hb2.mono hw1.size)
            have hX2 := hX1.below hb2 hX1.lt
            have hY2 := hY1.below hb2 hY1.lt
            clear hX1 hY1 hb2 y0 y1 y2 y3
            have x0 : w2.cell? ⟨w.heap.size, 0, none⟩ = some (.int .i64 x.lv) := hX2.cell 0
            have x1 : w2.cell? ⟨w.heap.size, 1, none⟩ = some (.int .u8 x.lc) := hX2.cell 1
            have x2 : w2.cell? ⟨w.heap.size, 2, none⟩ = some (.int .u8 x.c) := hX2.cell 2
            have x3 : w2.cell? ⟨w.heap.size, 3, none⟩ = some (.int .i64 x.r) := hX2.cell 3
            have y0 : w2.cell? ⟨w.heap.size + 1, 0, none⟩ = some (.int .i64 y.lv) := hY2.cell 0
            have y1 : w2.cell? ⟨w.heap.size + 1, 1, none⟩ = some (.int .u8 y.lc) := hY2.cell 1
            have y2 : w2.cell? ⟨w.heap.size + 1, 2, none⟩ = some (.int .u8 y.c) := hY2.cell 2
            have y3 : w2.cell? ⟨w.heap.size + 1, 3, none⟩ = some (.int .i64 y.r) := hY2.cell 3
            have kx0 := fun d os => cell_regrown x0 d os
            have kx1 := fun d os => cell_regrown x1 d os
            have kx2 := fun d os => cell_regrown x2 d os
            have kx3 := fun d os => cell_regrown x3 d os
            have ky0 := fun d os => cell_regrown y0 d os
            have ky1 := fun d os => cell_regrown y1 d os
            have ky2 := fun d os => cell_regrown y2 d os
            have ky3 := fun d os => cell_regrown y3 d os
            have Ht2 := Lib.hid (Ht.out.below hw2)
            clear x0 x1 x2 x3 y0 y1 y2 y3 hX2 hY2
            go_wp2_with fail
            refine wp_region_quiet_below (by kernel_rfl) (by kernel_rfl) ?_
            repeat (go_big_quiet_step ((first | (go_at_call_of 15 #[Value.agg #[Value.int IntKind.i64 x.lv, Value.int IntKind.u8 x.lc, Value.int IntKind.u8 x.c, Value.int IntKind.i64 x.r]]; exact Calls.regrown_of (textX_at HX.out s Hs.out _ (Ht2.out.below (below_regrown _ _ _)))) | (go_at_call_of 15 #[Value.agg #[Value.int IntKind.i64 y.lv, Value.int IntKind.u8 y.lc, Value.int IntKind.u8 y.c, Value.int IntKind.i64 y.r]]; exact Calls.regrown_of (textX_at HY.out s' Hs'.out _ (Ht2.out.below (below_regrown _ _ _)))) | (go_at_call 13; exact Calls.regrown_of (worksQ_any _ (Ht2.out.below (below_regrown _ _ _)))))))
            refine wpQuiet_nil ?_
            intro _ hw'
            obtain ⟨⟨dq, osq⟩, hw''⟩ := hw'
            subst hw''
            go_wp2_with fail
            go_ret
            exact ⟨rfl, hw2.trans ((below_regrown _ _ _).mono hw2.size)⟩
        · have d0 : (x.lv == y.lv) = false := by simpa using q0
          clear q0 hxy
          have hX := (blk_new w #[.int .i64 x.lv, .int .u8 x.lc, .int .u8 x.c, .int .i64 x.r] 36).alloc (Obj.cells #[.int .i64 y.lv, .int .u8 y.lc, .int .u8 y.c, .int .i64 y.r] 36)
          have hY := blk_new (w.alloc (Obj.cells #[.int .i64 x.lv, .int .u8 x.lc, .int .u8 x.c, .int .i64 x.r] 36)) #[.int .i64 y.lv, .int .u8 y.lc, .int .u8 y.c, .int .i64 y.r] 36
          rw [show (w.alloc (Obj.cells #[.int .i64 x.lv, .int .u8 x.lc, .int .u8 x.c, .int .i64 x.r] 36)).heap.size = w.heap.size + 1 by simp] at hY
          have hb0 : Below w.heap.size w ((w.alloc (Obj.cells #[.int .i64 x.lv, .int .u8 x.lc, .int .u8 x.c, .int .i64 x.r] 36)).alloc (Obj.cells #[.int .i64 y.lv, .int .u8 y.lc, .int .u8 y.c, .int .i64 y.r] 36)) := ((Below.refl _ _).alloc (Nat.le_refl _) _).alloc (by simp) _
          go_enter Tryd.func7, Tryd.ntmps7
          go_wp2_with fail
          refine (mayQ_at HMX.out _).mono ?_; rintro e w1 ⟨rfl, hb1⟩
          have hw1 := hb0.trans (hb1.mono hb0.size)
          have hX1 := hX.below hb1 hX.lt
          have hY1 := hY.below hb1 hY.lt
          clear hX hY hb0 hb1
          have y0 : w1.cell? ⟨w.heap.size + 1, 0, none⟩ = some (.int .i64 y.lv) := hY1.cell 0
          have y1 : w1.cell? ⟨w.heap.size + 1, 1, none⟩ = some (.int .u8 y.lc) := hY1.cell 1
          have y2 : w1.cell? ⟨w.heap.size + 1, 2, none⟩ = some (.int .u8 y.c) := hY1.cell 2
          have y3 : w1.cell? ⟨w.heap.size + 1, 3, none⟩ = some (.int .i64 y.r) := hY1.cell 3
          go_wp2_with fail
          refine (mayQ_at HMY.out _).mono ?_; rintro e w2 ⟨rfl, hb2⟩
          have hw2 := hw1.trans (hb2.mono hw1.size)
          have hX2 := hX1.below hb2 hX1.lt
          have hY2 := hY1.below hb2 hY1.lt
          clear hX1 hY1 hb2 y0 y1 y2 y3
          have x0 : w2.cell? ⟨w.heap.size, 0, none⟩ = some (.int .i64 x.lv) := hX2.cell 0
          have x1 : w2.cell? ⟨w.heap.size, 1, none⟩ = some (.int .u8 x.lc) := hX2.cell 1
          have x2 : w2.cell? ⟨w.heap.size, 2, none⟩ = some (.int .u8 x.c) := hX2.cell 2
          have x3 : w2.cell? ⟨w.heap.size, 3, none⟩ = some (.int .i64 x.r) := hX2.cell 3
          have y0 : w2.cell? ⟨w.heap.size + 1, 0, none⟩ = some (.int .i64 y.lv) := hY2.cell 0
          have y1 : w2.cell? ⟨w.heap.size + 1, 1, none⟩ = some (.int .u8 y.lc) := hY2.cell 1
          have y2 : w2.cell? ⟨w.heap.size + 1, 2, none⟩ = some (.int .u8 y.c) := hY2.cell 2
          have y3 : w2.cell? ⟨w.heap.size + 1, 3, none⟩ = some (.int .i64 y.r) := hY2.cell 3
          have kx0 := fun d os => cell_regrown x0 d os
          have kx1 := fun d os => cell_regrown x1 d os
          have kx2 := fun d os => cell_regrown x2 d os
          have kx3 := fun d os => cell_regrown x3 d os
          have ky0 := fun d os => cell_regrown y0 d os
          have ky1 := fun d os => cell_regrown y1 d os
          have ky2 := fun d os => cell_regrown y2 d os
          have ky3 := fun d os => cell_regrown y3 d os
          have Ht2 := Lib.hid (Ht.out.below hw2)
          clear x0 x1 x2 x3 y0 y1 y2 y3 hX2 hY2
          go_wp2_with fail
          refine wp_region_quiet_below (by kernel_rfl) (by kernel_rfl) ?_
          repeat (go_big_quiet_step ((first | (go_at_call_of 15 #[Value.agg #[Value.int IntKind.i64 x.lv, Value.int IntKind.u8 x.lc, Value.int IntKind.u8 x.c, Value.int IntKind.i64 x.r]]; exact Calls.regrown_of (textX_at HX.out s Hs.out _ (Ht2.out.below (below_regrown _ _ _)))) | (go_at_call_of 15 #[Value.agg #[Value.int IntKind.i64 y.lv, Value.int IntKind.u8 y.lc, Value.int IntKind.u8 y.c, Value.int IntKind.i64 y.r]]; exact Calls.regrown_of (textX_at HY.out s' Hs'.out _ (Ht2.out.below (below_regrown _ _ _)))) | (go_at_call 13; exact Calls.regrown_of (worksQ_any _ (Ht2.out.below (below_regrown _ _ _)))))))
          refine wpQuiet_nil ?_
          intro _ hw'
          obtain ⟨⟨dq, osq⟩, hw''⟩ := hw'
          subst hw''
          go_wp2_with fail
          go_ret
          exact ⟨rfl, hw2.trans ((below_regrown _ _ _).mono hw2.size)⟩

theorem walk_ineqTexts (w : World) (ht : Tab w) (v1 : Value) (h1 : IneqIn v1) (v2 : Value) (h2 : IneqIn v2) :
    Calls Tryd.prog 7 #[v1, v2] w fun e w' => e = .returned (.bool true) ∧ Below w.heap.size w w' := by
  obtain ⟨x, rfl, _⟩ := h1
  obtain ⟨y, rfl, _⟩ := h2
  exact walkA_ineqTexts w ht x y

/-! ### the row's step -/
namespace ineqTexts
set_option maxRecDepth 100000 in
theorem lifted (os : Os) (started : os.Started) (H : Type) (enc : TypeId × Value → H) :
    ReturnsInHanded {} Tryd.checked os 7 .any (fun w args => (Rows.ineqTextsSpec.pre enc Tryd.prog Tryd.f7 [] false w args ∧ laidMetH Tryd.prog laid3 w) ∧ sizedMet enc Tryd.prog Tryd.f7 (OpenSpec.ofChange Rows.ineqTextsSpec) false w args) (Rows.ineqTextsSpec.post enc Tryd.prog Tryd.f7 false true false false) := by
  refine returnsInHanded_of_change_and (C := Tryd.checked) (X := fun w _ => laidMetH Tryd.prog laid3 w) (fun _ _ _ hh h => h.of_heap hh) own started (by kernel_rfl) Tryd.func7
    (ChangeSpec.witness_shaped (enc := enc) (C := Tryd.checked) (os := os) (X := fun w _ => laidMetH Tryd.prog laid3 w) false (World.doorLaid Tryd.prog 400 os) #[.agg #[.int .i64 0, .int .u8 0, .int .u8 0, .int .i64 0], .agg #[.int .i64 0, .int .u8 0, .int .u8 0, .int .i64 0]] 8 rfl (World.shaped_of_RefB (by kernel_rfl) (by kernel_rfl)) (by kernel_rfl) (by kernel_rfl) (by kernel_rfl) (door_met os _)) ?_
  intro W base args ds gs before hval0 hW hcnd hsz0 hL _
  have hsz : (DataW.weightsEach Tryd.prog (Tryd.f7.params.toList ++ Rows.ineqTextsSpec.plain.varTypes Tryd.prog) (ds ++ gs)).all (· ≤ reachBytes) = true := hsz0
  have hval : ∀ (j : Nat) t v, Tryd.f7.params[j]? = some t → args[j]? = some v → Value.okWide Tryd.prog W .any base t v := hval0
  have hW' := hW
  obtain ⟨p, q, hA0, hV, rfl, hfz, hnd⟩ := hW
  have hA : DataW.TrodAll enc Tryd.prog W 0 (fun _ => true) true Tryd.f7.params.toList args.toList ds p := hA0
  rw [Tryd.params7] at hA hval hsz
  obtain ⟨v0, vs0, d0, ds0, p0, q0, hargs, rfl, rfl, h0, r_0⟩ := trodAll_cons hA
  obtain ⟨v1, vs1, d1, ds1, p1, q1, rfl, rfl, rfl, h1, r_1⟩ := trodAll_cons r_0
  obtain ⟨rfl, rfl, rfl⟩ := trodAll_nil r_1
  obtain rfl : args = #[v0, v1] := by cases args; simp_all
  obtain ⟨rfl, rfl⟩ := trodVars_none hV
  have w0 := rd_ineq (hval 0 36 v0 rfl rfl) h0
  have w1 := rd_ineq (hval 1 36 v1 rfl rfl) h1
  refine (walk_ineqTexts (w := W) (tab_of_laid hL) v0 w0 v1 w1).mono fun e W' ⟨he, bel⟩ => ?_
  subst he
  exact ⟨_, rfl, law_post laidOut (by kernel_rfl) rfl rfl Tryd.underlying4 hW' rfl rfl rfl bel⟩
theorem over : Rows.ineqTextsRow.holds Tryd.pinned (OpenSpec.ofChange Rows.ineqTextsSpec) :=
  OpenClaim.holds_of_wide 7 Tryd.f7 rfl rfl rfl rfl rfl rfl rfl ⟨rfl, rfl, rfl, rfl, rfl⟩ rfl rfl rfl rfl rfl (by kernel_rfl) Tryd.func7 (by kernel_rfl)
    (of_decide_eq_true (by kernel_rfl)) (by unfold Func.isWrapper; first | (rw [if_pos (by decide +kernel)]; kernel_rfl) | (rw [if_neg (by decide +kernel)]; exact ⟨rfl, rfl⟩))
    (fun os started H enc _ => lifted os started H enc)
theorem card : Rows.IneqTextsCardSaid :=
  Claim7.holds_tied_plain_at .later [] [.data, .data, .data] true Rows.ineqTextsCard.stood.harness false
    over (fun _ h => by cases h) (by kernel_rfl) (fun _ h => by cases h) ineqTexts_row_tie rfl ⟨rfl, rfl⟩ (by kernel_rfl) rfl
    (fun f fn hf hfn => by
      obtain rfl : f = 7 := Option.some.inj ((show Tryd.prog.funcNamed "usufruct/usufructlaw03.IneqTexts" = some 7 by kernel_rfl).symm.trans hf) |>.symm
      obtain rfl : fn = Tryd.f7 := (Option.some.inj (Tryd.func7.symm.trans hfn)).symm
      exact ⟨by kernel_rfl, fun j t ht => by
        rw [Tryd.params7] at ht
        have hm : t ∈ [36] := by simpa using Array.mem_of_getElem? ht
        have hall : ([36].all fun u => !Tryd.prog.wantsStandIn u) = true := by kernel_rfl
        exact (show Tryd.prog.wantsStandIn t = false by simpa using List.all_eq_true.1 hall t hm)⟩)
    (by kernel_rfl)
/-- the statement -/
theorem proved : Rows.IneqTextsCardSaid := card
#print axioms proved
end ineqTexts
end Go.Proofs.YtbccnfgceabopaaDoor
