/- The contract of usufructref02.Is (door seat only). -/
import Derived.Test.YtidamlkekgnhgaaDoorTermDef
import Derived.Test.YtidamlkekgnhgaaDoorMem
namespace Go.Proofs.YtidamlkekgnhgaaDoor
set_option linter.unusedVariables false
set_option linter.unusedSimpArgs false
open Go.RowKit

theorem refIs_any (c v : Int) (w : World) :
    Calls Tryd.prog 34 #[.agg #[.int .i64 v, .int .u8 c]] w fun e w' => e = .returned (.bool (isB c v)) ∧ Below w.heap.size w w' := by
  have hfin : ∀ b, isB c v = b → Hid (b = isB c v) := fun b h => Lib.hid h.symm
  by_cases h0 : c = 0 ∧ 0 ≤ v ∧ v < 1048576
  · obtain ⟨rfl, ha, hb⟩ := h0
    have H := hfin true (by simp [isB, ha, hb])
    clear hfin
    go_enter Tryd.func34, Tryd.ntmps34
    go_wp2_with fail
    go_ret
    exact ⟨ret_bool H.out, (Below.refl _ _).alloc (Nat.le_refl _) _⟩
  · have hcase : (c == 0) = false ∨ (c == 0) = true ∧ (¬ (0 ≤ v) ∨ 0 ≤ v ∧ ¬ (v < 1048576)) := by
      by_cases hc : c = 0
      · refine .inr ⟨by simp [hc], ?_⟩
        by_cases hv : 0 ≤ v
        · exact .inr ⟨hv, fun h => h0 ⟨hc, hv, h⟩⟩
        · exact .inl hv
      · exact .inl (by simp [hc])
    have hx : (c == 0 && decide (0 ≤ v) && decide (v < 1048576)) = false := by
      rw [Bool.eq_false_iff]
      intro h
      simp only [Bool.and_eq_true, beq_iff_eq, decide_eq_true_eq] at h
      exact h0 ⟨h.1.1, h.1.2, h.2⟩
    clear h0
    have hcase2 : ¬ (1 ≤ c) ∨ 1 ≤ c ∧ (¬ (c ≤ 3) ∨ c ≤ 3 ∧ ((v == 0) = false ∨ (v == 0) = true)) := by
      by_cases h1 : 1 ≤ c
      · by_cases h3 : c ≤ 3
        · cases h : v == 0
          · exact .inr ⟨h1, .inr ⟨h3, .inl rfl⟩⟩
          · exact .inr ⟨h1, .inr ⟨h3, .inr rfl⟩⟩
        · exact .inr ⟨h1, .inl h3⟩
      · exact .inl h1
    obtain ⟨y, hy⟩ : ∃ y, isB c v = y := ⟨_, rfl⟩
    have H := hfin y hy
    unfold isB oneB at hy
    rw [hx, Bool.false_or] at hy
    clear hfin hx
    rcases hcase2 with h1 | ⟨h1, h3 | ⟨h3, h4 | h4⟩⟩
    all_goals
      first | rw [decide_eq_false h1] at hy | rw [decide_eq_true h1, decide_eq_false h3] at hy | rw [decide_eq_true h1, decide_eq_true h3, h4] at hy
      simp only [Bool.false_and, Bool.true_and, Bool.and_false, Bool.and_true] at hy
      subst hy
      rcases hcase with h | ⟨h, h | ⟨h, h'⟩⟩
      all_goals
        go_enter Tryd.func34, Tryd.ntmps34
        go_wp2_with fail
        go_ret
        exact ⟨ret_bool H.out, (Below.refl _ _).alloc (Nat.le_refl _) _⟩

end Go.Proofs.YtidamlkekgnhgaaDoor
