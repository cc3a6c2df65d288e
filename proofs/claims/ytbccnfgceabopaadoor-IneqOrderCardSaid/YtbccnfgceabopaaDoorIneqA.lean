/- Contracts of ineq.May, usufructref03.May. -/
import Derived.Test.YtbccnfgceabopaaDoorIneqDef
import Derived.Test.YtbccnfgceabopaaDoorRefI
namespace Go.Proofs.YtbccnfgceabopaaDoor
set_option linter.unusedVariables false
set_option linter.unusedSimpArgs false
open Go.RowKit

theorem refIs_at (c v : Int) (x : Bool) (hx : isB c v = x) (w : World) :
    Calls Tryd.prog 23 #[.agg #[.int .i64 v, .int .u8 c]] w fun e w' => e = .returned (.bool x) ∧ Below w.heap.size w w' := by
  rw [← hx]; exact refIs_any c v w


theorem ineqMay_any (lv lc c r : Int) (w : World) :
    Calls Tryd.prog 18 #[.agg #[.int .i64 lv, .int .u8 lc, .int .u8 c, .int .i64 r]] w fun e w' => e = .returned (.int .i64 (mayQE lv lc c r)) ∧ Below w.heap.size w w' := by
  cases hi : isB lc lv
  · have H : Hid (2 = mayQE lv lc c r) := by show _ = _; rw [mayQE_no]; simp [mayQ, hi]
    have Hi := Lib.hid (isE_no hi)
    clear hi
    go_enter Tryd.func18, Tryd.ntmps18
    go_wp2_with fail
    refine (is_at lc lv 2 Hi.out _).mono ?_; rintro e w1 ⟨rfl, hb1⟩
    have c2 : w1.cell? ⟨w.heap.size, 2, none⟩ = some (.int .u8 c) := (hb1.cell (p := ⟨w.heap.size, 2, none⟩) (by simp)).trans ((blk_new w #[.int .i64 lv, .int .u8 lc, .int .u8 c, .int .i64 r] 36).cell 2)
    have c3 : w1.cell? ⟨w.heap.size, 3, none⟩ = some (.int .i64 r) := (hb1.cell (p := ⟨w.heap.size, 3, none⟩) (by simp)).trans ((blk_new w #[.int .i64 lv, .int .u8 lc, .int .u8 c, .int .i64 r] 36).cell 3)
    go_wp2_with fail
    go_ret
    exact ⟨by rw [H.out]; rfl, (below_box _).trans (hb1.mono (by simp))⟩
  · have Hi := Lib.hid (isE_yes hi)
    have Hi' := Lib.hid hi
    clear hi
    by_cases h1 : 1 ≤ c
    · by_cases h2 : c ≤ 3
      · by_cases h3 : -1 ≤ r
        · by_cases h4 : r < 1048576
          · have H : Hid (0 = mayQE lv lc c r) := by show _ = _; rw [mayQE_yes]; simp [mayQ, Hi'.out, h1, h2, h3, h4]
            go_enter Tryd.func18, Tryd.ntmps18
            go_wp2_with fail
            refine (is_at lc lv 0 Hi.out _).mono ?_; rintro e w1 ⟨rfl, hb1⟩
            have c2 : w1.cell? ⟨w.heap.size, 2, none⟩ = some (.int .u8 c) := (hb1.cell (p := ⟨w.heap.size, 2, none⟩) (by simp)).trans ((blk_new w #[.int .i64 lv, .int .u8 lc, .int .u8 c, .int .i64 r] 36).cell 2)
            have c3 : w1.cell? ⟨w.heap.size, 3, none⟩ = some (.int .i64 r) := (hb1.cell (p := ⟨w.heap.size, 3, none⟩) (by simp)).trans ((blk_new w #[.int .i64 lv, .int .u8 lc, .int .u8 c, .int .i64 r] 36).cell 3)
            go_wp2_with fail
            go_ret
            exact ⟨by rw [H.out]; rfl, (below_box _).trans (hb1.mono (by simp))⟩
          · have H : Hid (2 = mayQE lv lc c r) := by show _ = _; rw [mayQE_no]; simp [mayQ, h4]
            go_enter Tryd.func18, Tryd.ntmps18
            go_wp2_with fail
            refine (is_at lc lv 0 Hi.out _).mono ?_; rintro e w1 ⟨rfl, hb1⟩
            have c2 : w1.cell? ⟨w.heap.size, 2, none⟩ = some (.int .u8 c) := (hb1.cell (p := ⟨w.heap.size, 2, none⟩) (by simp)).trans ((blk_new w #[.int .i64 lv, .int .u8 lc, .int .u8 c, .int .i64 r] 36).cell 2)
            have c3 : w1.cell? ⟨w.heap.size, 3, none⟩ = some (.int .i64 r) := (hb1.cell (p := ⟨w.heap.size, 3, none⟩) (by simp)).trans ((blk_new w #[.int .i64 lv, .int .u8 lc, .int .u8 c, .int .i64 r] 36).cell 3)
            go_wp2_with fail
            go_ret
            exact ⟨by rw [H.out]; rfl, (below_box _).trans (hb1.mono (by simp))⟩
        · have H : Hid (2 = mayQE lv lc c r) := by show _ = _; rw [mayQE_no]; simp [mayQ, h3]
          go_enter Tryd.func18, Tryd.ntmps18
          go_wp2_with fail
          refine (is_at lc lv 0 Hi.out _).mono ?_; rintro e w1 ⟨rfl, hb1⟩
          have c2 : w1.cell? ⟨w.heap.size, 2, none⟩ = some (.int .u8 c) := (hb1.cell (p := ⟨w.heap.size, 2, none⟩) (by simp)).trans ((blk_new w #[.int .i64 lv, .int .u8 lc, .int .u8 c, .int .i64 r] 36).cell 2)
          have c3 : w1.cell? ⟨w.heap.size, 3, none⟩ = some (.int .i64 r) := (hb1.cell (p := ⟨w.heap.size, 3, none⟩) (by simp)).trans ((blk_new w #[.int .i64 lv, .int .u8 lc, .int .u8 c, .int .i64 r] 36).cell 3)
          go_wp2_with fail
          go_ret
          exact ⟨by rw [H.out]; rfl, (below_box _).trans (hb1.mono (by simp))⟩
      · have H : Hid (2 = mayQE lv lc c r) := by show _ = _; rw [mayQE_no]; simp [mayQ, h2]
        go_enter Tryd.func18, Tryd.ntmps18
        go_wp2_with fail
        refine (is_at lc lv 0 Hi.out _).mono ?_; rintro e w1 ⟨rfl, hb1⟩
        have c2 : w1.cell? ⟨w.heap.size, 2, none⟩ = some (.int .u8 c) := (hb1.cell (p := ⟨w.heap.size, 2, none⟩) (by simp)).trans ((blk_new w #[.int .i64 lv, .int .u8 lc, .int .u8 c, .int .i64 r] 36).cell 2)
        have c3 : w1.cell? ⟨w.heap.size, 3, none⟩ = some (.int .i64 r) := (hb1.cell (p := ⟨w.heap.size, 3, none⟩) (by simp)).trans ((blk_new w #[.int .i64 lv, .int .u8 lc, .int .u8 c, .int .i64 r] 36).cell 3)
        go_wp2_with fail
        go_ret
        exact ⟨by rw [H.out]; rfl, (below_box _).trans (hb1.mono (by simp))⟩
    · have H : Hid (2 = mayQE lv lc c r) := by show _ = _; rw [mayQE_no]; simp [mayQ, h1]
      go_enter Tryd.func18, Tryd.ntmps18
      go_wp2_with fail
      refine (is_at lc lv 0 Hi.out _).mono ?_; rintro e w1 ⟨rfl, hb1⟩
      have c2 : w1.cell? ⟨w.heap.size, 2, none⟩ = some (.int .u8 c) := (hb1.cell (p := ⟨w.heap.size, 2, none⟩) (by simp)).trans ((blk_new w #[.int .i64 lv, .int .u8 lc, .int .u8 c, .int .i64 r] 36).cell 2)
      have c3 : w1.cell? ⟨w.heap.size, 3, none⟩ = some (.int .i64 r) := (hb1.cell (p := ⟨w.heap.size, 3, none⟩) (by simp)).trans ((blk_new w #[.int .i64 lv, .int .u8 lc, .int .u8 c, .int .i64 r] 36).cell 3)
      go_wp2_with fail
      go_ret
      exact ⟨by rw [H.out]; rfl, (below_box _).trans (hb1.mono (by simp))⟩

theorem refMayQ_any (lv lc c r : Int) (w : World) :
    Calls Tryd.prog 19 #[.agg #[.int .i64 lv, .int .u8 lc, .int .u8 c, .int .i64 r]] w fun e w' => e = .returned (.bool (mayQ lv lc c r)) ∧ Below w.heap.size w w' := by
  cases hi : isB lc lv
  · have H : Hid (false = mayQ lv lc c r) := by show _ = _; simp [mayQ, hi]
    have Hi := Lib.hid hi
    clear hi
    go_enter Tryd.func19, Tryd.ntmps19
    go_wp2_with fail
    refine (refIs_at lc lv false Hi.out _).mono ?_; rintro e w1 ⟨rfl, hb1⟩
    have c2 : w1.cell? ⟨w.heap.size, 2, none⟩ = some (.int .u8 c) := (hb1.cell (p := ⟨w.heap.size, 2, none⟩) (by simp)).trans ((blk_new w #[.int .i64 lv, .int .u8 lc, .int .u8 c, .int .i64 r] 36).cell 2)
    have c3 : w1.cell? ⟨w.heap.size, 3, none⟩ = some (.int .i64 r) := (hb1.cell (p := ⟨w.heap.size, 3, none⟩) (by simp)).trans ((blk_new w #[.int .i64 lv, .int .u8 lc, .int .u8 c, .int .i64 r] 36).cell 3)
    go_wp2_with fail
    go_ret
    exact ⟨by first | (rw [H.out]; rfl) | (rw [← H.out, show decide (r < 1048576) = false from decide_eq_false (by omega)]; rfl), (below_box _).trans (hb1.mono (by simp))⟩
  · have Hi := Lib.hid hi
    have Hi' := Lib.hid hi
    clear hi
    by_cases h1 : 1 ≤ c
    · by_cases h2 : c ≤ 3
      · by_cases h3 : -1 ≤ r
        · by_cases h4 : r < 1048576
          · have H : Hid (true = mayQ lv lc c r) := by show _ = _; simp [mayQ, Hi'.out, h1, h2, h3, h4]
            go_enter Tryd.func19, Tryd.ntmps19
            go_wp2_with fail
            refine (refIs_at lc lv true Hi.out _).mono ?_; rintro e w1 ⟨rfl, hb1⟩
            have c2 : w1.cell? ⟨w.heap.size, 2, none⟩ = some (.int .u8 c) := (hb1.cell (p := ⟨w.heap.size, 2, none⟩) (by simp)).trans ((blk_new w #[.int .i64 lv, .int .u8 lc, .int .u8 c, .int .i64 r] 36).cell 2)
            have c3 : w1.cell? ⟨w.heap.size, 3, none⟩ = some (.int .i64 r) := (hb1.cell (p := ⟨w.heap.size, 3, none⟩) (by simp)).trans ((blk_new w #[.int .i64 lv, .int .u8 lc, .int .u8 c, .int .i64 r] 36).cell 3)
            go_wp2_with fail
            go_ret
            exact ⟨by first | (rw [H.out]; rfl) | (rw [← H.out, show decide (r < 1048576) = false from decide_eq_false (by omega)]; rfl), (below_box _).trans (hb1.mono (by simp))⟩
          · have H : Hid (false = mayQ lv lc c r) := by show _ = _; simp [mayQ, h4]
            go_enter Tryd.func19, Tryd.ntmps19
            go_wp2_with fail
            refine (refIs_at lc lv true Hi.out _).mono ?_; rintro e w1 ⟨rfl, hb1⟩
            have c2 : w1.cell? ⟨w.heap.size, 2, none⟩ = some (.int .u8 c) := (hb1.cell (p := ⟨w.heap.size, 2, none⟩) (by simp)).trans ((blk_new w #[.int .i64 lv, .int .u8 lc, .int .u8 c, .int .i64 r] 36).cell 2)
            have c3 : w1.cell? ⟨w.heap.size, 3, none⟩ = some (.int .i64 r) := (hb1.cell (p := ⟨w.heap.size, 3, none⟩) (by simp)).trans ((blk_new w #[.int .i64 lv, .int .u8 lc, .int .u8 c, .int .i64 r] 36).cell 3)
            go_wp2_with fail
            go_ret
            exact ⟨by first | (rw [H.out]; rfl) | (rw [← H.out, show decide (r < 1048576) = false from decide_eq_false (by omega)]; rfl), (below_box _).trans (hb1.mono (by simp))⟩
        · have H : Hid (false = mayQ lv lc c r) := by show _ = _; simp [mayQ, h3]
          go_enter Tryd.func19, Tryd.ntmps19
          go_wp2_with fail
          refine (refIs_at lc lv true Hi.out _).mono ?_; rintro e w1 ⟨rfl, hb1⟩
          have c2 : w1.cell? ⟨w.heap.size, 2, none⟩ = some (.int .u8 c) := (hb1.cell (p := ⟨w.heap.size, 2, none⟩) (by simp)).trans ((blk_new w #[.int .i64 lv, .int .u8 lc, .int .u8 c, .int .i64 r] 36).cell 2)
          have c3 : w1.cell? ⟨w.heap.size, 3, none⟩ = some (.int .i64 r) := (hb1.cell (p := ⟨w.heap.size, 3, none⟩) (by simp)).trans ((blk_new w #[.int .i64 lv, .int .u8 lc, .int .u8 c, .int .i64 r] 36).cell 3)
          go_wp2_with fail
          go_ret
          exact ⟨by first | (rw [H.out]; rfl) | (rw [← H.out, show decide (r < 1048576) = false from decide_eq_false (by omega)]; rfl), (below_box _).trans (hb1.mono (by simp))⟩
      · have H : Hid (false = mayQ lv lc c r) := by show _ = _; simp [mayQ, h2]
        go_enter Tryd.func19, Tryd.ntmps19
        go_wp2_with fail
        refine (refIs_at lc lv true Hi.out _).mono ?_; rintro e w1 ⟨rfl, hb1⟩
        have c2 : w1.cell? ⟨w.heap.size, 2, none⟩ = some (.int .u8 c) := (hb1.cell (p := ⟨w.heap.size, 2, none⟩) (by simp)).trans ((blk_new w #[.int .i64 lv, .int .u8 lc, .int .u8 c, .int .i64 r] 36).cell 2)
        have c3 : w1.cell? ⟨w.heap.size, 3, none⟩ = some (.int .i64 r) := (hb1.cell (p := ⟨w.heap.size, 3, none⟩) (by simp)).trans ((blk_new w #[.int .i64 lv, .int .u8 lc, .int .u8 c, .int .i64 r] 36).cell 3)
        go_wp2_with fail
        go_ret
        exact ⟨by first | (rw [H.out]; rfl) | (rw [← H.out, show decide (r < 1048576) = false from decide_eq_false (by omega)]; rfl), (below_box _).trans (hb1.mono (by simp))⟩
    · have H : Hid (false = mayQ lv lc c r) := by show _ = _; simp [mayQ, h1]
      go_enter Tryd.func19, Tryd.ntmps19
      go_wp2_with fail
      refine (refIs_at lc lv true Hi.out _).mono ?_; rintro e w1 ⟨rfl, hb1⟩
      have c2 : w1.cell? ⟨w.heap.size, 2, none⟩ = some (.int .u8 c) := (hb1.cell (p := ⟨w.heap.size, 2, none⟩) (by simp)).trans ((blk_new w #[.int .i64 lv, .int .u8 lc, .int .u8 c, .int .i64 r] 36).cell 2)
      have c3 : w1.cell? ⟨w.heap.size, 3, none⟩ = some (.int .i64 r) := (hb1.cell (p := ⟨w.heap.size, 3, none⟩) (by simp)).trans ((blk_new w #[.int .i64 lv, .int .u8 lc, .int .u8 c, .int .i64 r] 36).cell 3)
      go_wp2_with fail
      go_ret
      exact ⟨by first | (rw [H.out]; rfl) | (rw [← H.out, show decide (r < 1048576) = false from decide_eq_false (by omega)]; rfl), (below_box _).trans (hb1.mono (by simp))⟩


theorem there_any (v : Int) (A : Option Addr) (n c : Nat) (asg : List Int) (w : World) (B : Nat) (ha : RdI .u8 w B A n c asg) (hv : 0 ≤ v) :
    Calls Tryd.prog 48 #[.int .i64 v, .slice A n c] w fun e w' => e = .returned (.bool (okV asg v)) ∧ w = w' := by
  obtain ⟨m, rfl⟩ : ∃ m : Nat, v = (m : Int) := ⟨v.toNat, (Int.toNat_of_nonneg hv).symm⟩
  clear hv
  have hla := ha.len
  have hn63 : n ≤ 9223372036854775807 := Nat.le_trans ha.2.1 ha.2.2
  by_cases hlt : m < n
  · obtain ⟨b, off, rfl, hb, hcell⟩ := ha.at_ (by omega)
    have hm' : m < asg.length := by rw [hla]; exact hlt
    have hc := hcell m hm'
    have hav : atV asg m = asg[m] := by simp [atV, List.getD, hm']
    have hml : ((m : Int) < asg.length) := by omega
    generalize asg[m] = y at hc hav
    clear hcell ha hla
    by_cases h1 : 1 ≤ y
    · by_cases h2 : y ≤ 3
      · have H : Hid (true = okV asg m) := by show _ = _; simp [okV, oneB, hav, hml, h1, h2]
        clear hav hml hm'
        go_enter Tryd.func48, Tryd.ntmps48
        go_wp2_with fail
        go_ret
        exact ⟨by rw [H.out]; rfl, rfl⟩
      · have H : Hid (false = okV asg m) := by show _ = _; simp [okV, oneB, hav, hml, h1, h2]
        clear hav hml hm'
        go_enter Tryd.func48, Tryd.ntmps48
        go_wp2_with fail
        go_ret
        exact ⟨by rw [H.out]; rfl, rfl⟩
    · have H : Hid (false = okV asg m) := by show _ = _; simp [okV, oneB, hav, hml, h1]
      clear hav hml hm'
      go_enter Tryd.func48, Tryd.ntmps48
      go_wp2_with fail
      go_ret
      exact ⟨by rw [H.out]; rfl, rfl⟩
  · have hml : ¬ ((m : Int) < asg.length) := by omega
    have H : Hid (false = okV asg m) := by show _ = _; simp [okV, hml]
    have hlt' : n ≤ m := by omega
    clear hml hla hlt ha
    go_enter Tryd.func48, Tryd.ntmps48
    go_wp2_with fail
    go_ret
    exact ⟨by rw [H.out]; rfl, rfl⟩

end Go.Proofs.YtbccnfgceabopaaDoor
