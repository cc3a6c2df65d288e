/- Contracts of ineq.May, usufructref03.May. -/
import Derived.Test.YthabkpkgocafoaaIneqDef
import Derived.Test.YthabkpkgocafoaaRefI
namespace Go.Proofs.Ythabkpkgocafoaa
set_option linter.unusedVariables false
set_option linter.unusedSimpArgs false
open Go.RowKit

theorem refIs_at (c v : Int) (x : Bool) (hx : isB c v = x) (w : World) :
    Calls Try.prog 67 #[.agg #[.int .i64 v, .int .u8 c]] w fun e w' => e = .returned (.bool x) ∧ Below w.heap.size w w' := by
  rw [← hx]; exact refIs_any c v w


theorem ineqMay_any (lv lc c r : Int) (w : World) :
    Calls Try.prog 49 #[.agg #[.int .i64 lv, .int .u8 lc, .int .u8 c, .int .i64 r]] w fun e w' => e = .returned (.int .i64 (mayQE lv lc c r)) ∧ Below w.heap.size w w' := by
  cases hi : isB lc lv
  · have H : Hid (2 = mayQE lv lc c r) := by show _ = _; rw [mayQE_no]; simp [mayQ, hi]
    have Hi := Lib.hid (isE_no hi)
    clear hi
    go_enter Try.func49, Try.ntmps49
    go_wp2_with fail
    refine (is_at lc lv 2 Hi.out _).mono ?_; rintro e w1 ⟨rfl, hb1⟩
    have c2 : w1.cell? ⟨w.heap.size, 2, none⟩ = some (.int .u8 c) := (hb1.cell (p := ⟨w.heap.size, 2, none⟩) (by simp)).trans ((blk_new w #[.int .i64 lv, .int .u8 lc, .int .u8 c, .int .i64 r] 31).cell 2)
    have c3 : w1.cell? ⟨w.heap.size, 3, none⟩ = some (.int .i64 r) := (hb1.cell (p := ⟨w.heap.size, 3, none⟩) (by simp)).trans ((blk_new w #[.int .i64 lv, .int .u8 lc, .int .u8 c, .int .i64 r] 31).cell 3)
    go_wp2_with fail
    go_ret
    exact ⟨by rw [H.out]; rfl, (below_box _).trans (hb1.mono (by simp))⟩
  · have Hi := Lib.hid (isE_yes hi)
    have Hi' := Lib.hid hi
    clear hi
    by_cases h1 : 1 ≤ c
    · by_cases h2 : c ≤ 3
      · by_cases h3 : -1 ≤ r
        · by_cases h4 : r < 1048576
          · have H : Hid (0 = mayQE lv lc c r) := by show _ = _; rw [mayQE_yes]; simp [mayQ, Hi'.out, h1, h2, h3, h4]
            go_enter Try.func49, Try.ntmps49
            go_wp2_with fail
            refine (is_at lc lv 0 Hi.out _).mono ?_; rintro e w1 ⟨rfl, hb1⟩
            have c2 : w1.cell? ⟨w.heap.size, 2, none⟩ = some (.int .u8 c) := (hb1.cell (p := ⟨w.heap.size, 2, none⟩) (by simp)).trans ((blk_new w #[.int .i64 lv, .int .u8 lc, .int .u8 c, .int .i64 r] 31).cell 2)
            have c3 : w1.cell? ⟨w.heap.size, 3, none⟩ = some (.int .i64 r) := (hb1.cell (p := ⟨w.heap.size, 3, none⟩) (by simp)).trans ((blk_new w #[.int .i64 lv, .int .u8 lc, .int .u8 c, .int .i64 r] 31).cell 3)
            go_wp2_with fail
            go_ret
            exact ⟨by rw [H.out]; rfl, (below_box _).trans (hb1.mono (by simp))⟩
          · have H : Hid (2 = mayQE lv lc c r) := by show _ = _; rw [mayQE_no]; simp [mayQ, h4]
            go_enter Try.func49, Try.ntmps49
            go_wp2_with fail
            refine (is_at lc lv 0 Hi.out _).mono ?_; rintro e w1 ⟨rfl, hb1⟩
            have c2 : w1.cell? ⟨w.heap.size, 2, none⟩ = some (.int .u8 c) := (hb1.cell (p := ⟨w.heap.size, 2, none⟩) (by simp)).trans ((blk_new w #[.int .i64 lv, .int .u8 lc, .int .u8 c, .int .i64 r] 31).cell 2)
            have c3 : w1.cell? ⟨w.heap.size, 3, none⟩ = some (.int .i64 r) := (hb1.cell (p := ⟨w.heap.size, 3, none⟩) (by simp)).trans ((blk_new w #[.int .i64 lv, .int .u8 lc, .int .u8 c, .int .i64 r] 31).cell 3)
            go_wp2_with fail
            go_ret
            exact ⟨by rw [H.out]; rfl, (below_box _).trans (hb1.mono (by simp))⟩
        · have H : Hid (2 = mayQE lv lc c r) := by show _ = _; rw [mayQE_no]; simp [mayQ, h3]
          go_enter Try.func49, Try.ntmps49
          go_wp2_with fail
          refine (is_at lc lv 0 Hi.out _).mono ?_; rintro e w1 ⟨rfl, hb1⟩
          have c2 : w1.cell? ⟨w.heap.size, 2, none⟩ = some (.int .u8 c) := (hb1.cell (p := ⟨w.heap.size, 2, none⟩) (by simp)).trans ((blk_new w #[.int .i64 lv, .int .u8 lc, .int .u8 c, .int .i64 r] 31).cell 2)
          have c3 : w1.cell? ⟨w.heap.size, 3, none⟩ = some (.int .i64 r) := (hb1.cell (p := ⟨w.heap.size, 3, none⟩) (by simp)).trans ((blk_new w #[.int .i64 lv, .int .u8 lc, .int .u8 c, .int .i64 r] 31).cell 3)
          go_wp2_with fail
          go_ret
          exact ⟨by rw [H.out]; rfl, (below_box _).trans (hb1.mono (by simp))⟩
      · have H : Hid (2 = mayQE lv lc c r) := by show _ = _; rw [mayQE_no]; simp [mayQ, h2]
        go_enter Try.func49, Try.ntmps49
        go_wp2_with fail
        refine (is_at lc lv 0 Hi.out _).mono ?_; rintro e w1 ⟨rfl, hb1⟩
        have c2 : w1.cell? ⟨w.heap.size, 2, none⟩ = some (.int .u8 c) := (hb1.cell (p := ⟨w.heap.size, 2, none⟩) (by simp)).trans ((blk_new w #[.int .i64 lv, .int .u8 lc, .int .u8 c, .int .i64 r] 31).cell 2)
        have c3 : w1.cell? ⟨w.heap.size, 3, none⟩ = some (.int .i64 r) := (hb1.cell (p := ⟨w.heap.size, 3, none⟩) (by simp)).trans ((blk_new w #[.int .i64 lv, .int .u8 lc, .int .u8 c, .int .i64 r] 31).cell 3)
        go_wp2_with fail
        go_ret
        exact ⟨by rw [H.out]; rfl, (below_box _).trans (hb1.mono (by simp))⟩
    · have H : Hid (2 = mayQE lv lc c r) := by show _ = _; rw [mayQE_no]; simp [mayQ, h1]
      go_enter Try.func49, Try.ntmps49
      go_wp2_with fail
      refine (is_at lc lv 0 Hi.out _).mono ?_; rintro e w1 ⟨rfl, hb1⟩
      have c2 : w1.cell? ⟨w.heap.size, 2, none⟩ = some (.int .u8 c) := (hb1.cell (p := ⟨w.heap.size, 2, none⟩) (by simp)).trans ((blk_new w #[.int .i64 lv, .int .u8 lc, .int .u8 c, .int .i64 r] 31).cell 2)
      have c3 : w1.cell? ⟨w.heap.size, 3, none⟩ = some (.int .i64 r) := (hb1.cell (p := ⟨w.heap.size, 3, none⟩) (by simp)).trans ((blk_new w #[.int .i64 lv, .int .u8 lc, .int .u8 c, .int .i64 r] 31).cell 3)
      go_wp2_with fail
      go_ret
      exact ⟨by rw [H.out]; rfl, (below_box _).trans (hb1.mono (by simp))⟩

theorem refMayQ_any (lv lc c r : Int) (w : World) :
    Calls Try.prog 47 #[.agg #[.int .i64 lv, .int .u8 lc, .int .u8 c, .int .i64 r]] w fun e w' => e = .returned (.bool (mayQ lv lc c r)) ∧ Below w.heap.size w w' := by
  cases hi : isB lc lv
  · have H : Hid (false = mayQ lv lc c r) := by show _ = _; simp [mayQ, hi]
    have Hi := Lib.hid hi
    clear hi
    go_enter Try.func47, Try.ntmps47
    go_wp2_with fail
    refine (refIs_at lc lv false Hi.out _).mono ?_; rintro e w1 ⟨rfl, hb1⟩
    have c2 : w1.cell? ⟨w.heap.size, 2, none⟩ = some (.int .u8 c) := (hb1.cell (p := ⟨w.heap.size, 2, none⟩) (by simp)).trans ((blk_new w #[.int .i64 lv, .int .u8 lc, .int .u8 c, .int .i64 r] 31).cell 2)
    have c3 : w1.cell? ⟨w.heap.size, 3, none⟩ = some (.int .i64 r) := (hb1.cell (p := ⟨w.heap.size, 3, none⟩) (by simp)).trans ((blk_new w #[.int .i64 lv, .int .u8 lc, .int .u8 c, .int .i64 r] 31).cell 3)
    go_wp2_with fail
    go_ret
    exact ⟨by first | (rw [H.out]; rfl) | (rw [← H.out, show decide (r < 1048576) = false from decide_eq_false (by omega)]; rfl), (below_box _).trans (hb1.mono (by simp))⟩
  · have Hi := Lib.hid hi
    have Hi' := Lib.hid hi
    clear hi
    by_cases h1 : 1 ≤ c
    · by_cases h2 : c ≤ 3
      · by_cases h3 : -1 ≤ r
        · by_cases h4 : r < 1048576
          · have H : Hid (true = mayQ lv lc c r) := by show _ = _; simp [mayQ, Hi'.out, h1, h2, h3, h4]
            go_enter Try.func47, Try.ntmps47
            go_wp2_with fail
            refine (refIs_at lc lv true Hi.out _).mono ?_; rintro e w1 ⟨rfl, hb1⟩
            have c2 : w1.cell? ⟨w.heap.size, 2, none⟩ = some (.int .u8 c) := (hb1.cell (p := ⟨w.heap.size, 2, none⟩) (by simp)).trans ((blk_new w #[.int .i64 lv, .int .u8 lc, .int .u8 c, .int .i64 r] 31).cell 2)
            have c3 : w1.cell? ⟨w.heap.size, 3, none⟩ = some (.int .i64 r) := (hb1.cell (p := ⟨w.heap.size, 3, none⟩) (by simp)).trans ((blk_new w #[.int .i64 lv, .int .u8 lc, .int .u8 c, .int .i64 r] 31).cell 3)
            go_wp2_with fail
            go_ret
            exact ⟨by first | (rw [H.out]; rfl) | (rw [← H.out, show decide (r < 1048576) = false from decide_eq_false (by omega)]; rfl), (below_box _).trans (hb1.mono (by simp))⟩
          · have H : Hid (false = mayQ lv lc c r) := by show _ = _; simp [mayQ, h4]
            go_enter Try.func47, Try.ntmps47
            go_wp2_with fail
            refine (refIs_at lc lv true Hi.out _).mono ?_; rintro e w1 ⟨rfl, hb1⟩
            have c2 : w1.cell? ⟨w.heap.size, 2, none⟩ = some (.int .u8 c) := (hb1.cell (p := ⟨w.heap.size, 2, none⟩) (by simp)).trans ((blk_new w #[.int .i64 lv, .int .u8 lc, .int .u8 c, .int .i64 r] 31).cell 2)
            have c3 : w1.cell? ⟨w.heap.size, 3, none⟩ = some (.int .i64 r) := (hb1.cell (p := ⟨w.heap.size, 3, none⟩) (by simp)).trans ((blk_new w #[.int .i64 lv, .int .u8 lc, .int .u8 c, .int .i64 r] 31).cell 3)
            go_wp2_with fail
            go_ret
            exact ⟨by first | (rw [H.out]; rfl) | (rw [← H.out, show decide (r < 1048576) = false from decide_eq_false (by omega)]; rfl), (below_box _).trans (hb1.mono (by simp))⟩
        · have H : Hid (false = mayQ lv lc c r) := by show _ = _; simp [mayQ, h3]
          go_enter Try.func47, Try.ntmps47
          go_wp2_with fail
          refine (refIs_at lc lv true Hi.out _).mono ?_; rintro e w1 ⟨rfl, hb1⟩
          have c2 : w1.cell? ⟨w.heap.size, 2, none⟩ = some (.int .u8 c) := (hb1.cell (p := ⟨w.heap.size, 2, none⟩) (by simp)).trans ((blk_new w #[.int .i64 lv, .int .u8 lc, .int .u8 c, .int .i64 r] 31).cell 2)
          have c3 : w1.cell? ⟨w.heap.size, 3, none⟩ = some (.int .i64 r) := (hb1.cell (p := ⟨w.heap.size, 3, none⟩) (by simp)).trans ((blk_new w #[.int .i64 lv, .int .u8 lc, .int .u8 c, .int .i64 r] 31).cell 3)
          go_wp2_with fail
          go_ret
          exact ⟨by first | (rw [H.out]; rfl) | (rw [← H.out, show decide (r < 1048576) = false from decide_eq_false (by omega)]; rfl), (below_box _).trans (hb1.mono (by simp))⟩
      · have H : Hid (false = mayQ lv lc c r) := by show _ = _; simp [mayQ, h2]
        go_enter Try.func47, Try.ntmps47
        go_wp2_with fail
        refine (refIs_at lc lv true Hi.out _).mono ?_; rintro e w1 ⟨rfl, hb1⟩
        have c2 : w1.cell? ⟨w.heap.size, 2, none⟩ = some (.int .u8 c) := (hb1.cell (p := ⟨w.heap.size, 2, none⟩) (by simp)).trans ((blk_new w #[.int .i64 lv, .int .u8 lc, .int .u8 c, .int .i64 r] 31).cell 2)
        have c3 : w1.cell? ⟨w.heap.size, 3, none⟩ = some (.int .i64 r) := (hb1.cell (p := ⟨w.heap.size, 3, none⟩) (by simp)).trans ((blk_new w #[.int .i64 lv, .int .u8 lc, .int .u8 c, .int .i64 r] 31).cell 3)
        go_wp2_with fail
        go_ret
        exact ⟨by first | (rw [H.out]; rfl) | (rw [← H.out, show decide (r < 1048576) = false from decide_eq_false (by omega)]; rfl), (below_box _).trans (hb1.mono (by simp))⟩
    · have H : Hid (false = mayQ lv lc c r) := by show _ = _; simp [mayQ, h1]
      go_enter Try.func47, Try.ntmps47
      go_wp2_with fail
      refine (refIs_at lc lv true Hi.out _).mono ?_; rintro e w1 ⟨rfl, hb1⟩
      have c2 : w1.cell? ⟨w.heap.size, 2, none⟩ = some (.int .u8 c) := (hb1.cell (p := ⟨w.heap.size, 2, none⟩) (by simp)).trans ((blk_new w #[.int .i64 lv, .int .u8 lc, .int .u8 c, .int .i64 r] 31).cell 2)
      have c3 : w1.cell? ⟨w.heap.size, 3, none⟩ = some (.int .i64 r) := (hb1.cell (p := ⟨w.heap.size, 3, none⟩) (by simp)).trans ((blk_new w #[.int .i64 lv, .int .u8 lc, .int .u8 c, .int .i64 r] 31).cell 3)
      go_wp2_with fail
      go_ret
      exact ⟨by first | (rw [H.out]; rfl) | (rw [← H.out, show decide (r < 1048576) = false from decide_eq_false (by omega)]; rfl), (below_box _).trans (hb1.mono (by simp))⟩



end Go.Proofs.Ythabkpkgocafoaa
