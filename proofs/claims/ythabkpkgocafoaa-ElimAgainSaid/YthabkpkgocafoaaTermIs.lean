/- The contract of term.Is. -/
import Derived.Test.YthabkpkgocafoaaTermA
import Derived.Test.YthabkpkgocafoaaMem
namespace Go.Proofs.Ythabkpkgocafoaa
set_option linter.unusedVariables false
set_option linter.unusedSimpArgs false
open Go.RowKit

theorem is_any (c v : Int) (w : World) :
    Calls Try.prog 68 #[.agg #[.int .i64 v, .int .u8 c]] w fun e w' => e = .returned (.int .i64 (isE c v)) ∧ Below w.heap.size w w' := by
  by_cases h0 : c = 0 ∧ 0 ≤ v ∧ v < 1048576
  · obtain ⟨rfl, ha, hb⟩ := h0
    have H : Hid (0 = isE 0 v) := by show _ = _; rw [isE_yes]; simp [isB, ha, hb]
    go_enter Try.func68, Try.ntmps68
    go_wp2_with fail
    go_ret
    exact ⟨ret_int H.out, (Below.refl _ _).alloc (Nat.le_refl _) _⟩
  · have hx : (c == 0 && decide (0 ≤ v) && decide (v < 1048576)) = false := by
      rw [Bool.eq_false_iff]
      intro h
      simp only [Bool.and_eq_true, beq_iff_eq, decide_eq_true_eq] at h
      exact h0 ⟨h.1.1, h.1.2, h.2⟩
    have hcase : (c == 0) = false ∨ (c == 0) = true ∧ (¬ (0 ≤ v) ∨ 0 ≤ v ∧ ¬ (v < 1048576)) := by
      by_cases hc : c = 0
      · refine .inr ⟨by simp [hc], ?_⟩
        by_cases hv : 0 ≤ v
        · exact .inr ⟨hv, fun h => h0 ⟨hc, hv, h⟩⟩
        · exact .inl hv
      · exact .inl (by simp [hc])
    clear h0
    have hfin : ∀ b, (oneB c && v == 0) = b → isB c v = b := by intro b hb; unfold isB; rw [hx, hb]; rfl
    have Hfin := Lib.hid hfin
    clear hfin hx
    cases h1 : oneB c
    · have H : Hid (2 = isE c v) := by show _ = _; rw [isE_no (Hfin.out false (by simp [h1]))]
      have H1 := Lib.hid h1
      clear h1
      rcases hcase with h | ⟨h, h | ⟨h, h'⟩⟩
      all_goals
        go_enter Try.func68, Try.ntmps68
        go_wp2_with fail
        refine (one_at _ _ H1.out _).mono ?_; rintro e w1 ⟨rfl, rfl⟩
        go_wp2_with fail
        go_ret
        exact ⟨ret_int H.out, (Below.refl _ _).alloc (Nat.le_refl _) _⟩
    · have hc1 : (c == 0) = false := by
        rw [Bool.eq_false_iff]; intro h; rw [beq_iff_eq] at h; subst h; simp [oneB] at h1
      clear hcase
      have H1 := Lib.hid h1
      by_cases hv : v = 0
      · have H : Hid (0 = isE c v) := by show _ = _; rw [isE_yes (Hfin.out true (by simp [h1, hv]))]
        subst hv
        clear h1
        go_enter Try.func68, Try.ntmps68
        go_wp2_with fail
        refine (one_at _ _ H1.out _).mono ?_; rintro e w1 ⟨rfl, rfl⟩
        go_wp2_with fail
        go_ret
        exact ⟨ret_int H.out, (Below.refl _ _).alloc (Nat.le_refl _) _⟩
      · have hv0 : (v == 0) = false := by simp [hv]
        have H : Hid (2 = isE c v) := by show _ = _; rw [isE_no (Hfin.out false (by simp [h1, hv]))]
        clear h1 hv
        go_enter Try.func68, Try.ntmps68
        go_wp2_with fail
        refine (one_at _ _ H1.out _).mono ?_; rintro e w1 ⟨rfl, rfl⟩
        go_wp2_with fail
        go_ret
        exact ⟨ret_int H.out, (Below.refl _ _).alloc (Nat.le_refl _) _⟩

end Go.Proofs.Ythabkpkgocafoaa
