/- Contracts of package term: May and what it calls. -/
import Derived.Test.YtidamlkekgnhgaaDoorProg
import Derived.Test.YtidamlkekgnhgaaDoorTermDef
namespace Go.Proofs.YtidamlkekgnhgaaDoor
set_option linter.unusedVariables false
set_option linter.unusedSimpArgs false
open Go.RowKit

theorem one_any (m : Int) (w : World) :
    Calls Tryd.prog 79 #[.int .u8 m] w fun e w' => e = .returned (.bool (oneB m)) ∧ w = w' := by
  by_cases h : 1 ≤ m
  · have hb : decide (1 ≤ m) = true := by simpa using h
    have H : Hid (decide (m ≤ 3) = oneB m) := by show _ = _; simp [oneB, h]
    clear h
    go_enter Tryd.func79, Tryd.ntmps79
    go_wp2_with fail
    go_ret
    exact ⟨ret_bool H.out, rfl⟩
  · have hb : decide (1 ≤ m) = false := by simpa using h
    have H : Hid (false = oneB m) := by show _ = _; simp [oneB, h]
    clear h
    go_enter Tryd.func79, Tryd.ntmps79
    go_wp2_with fail
    go_ret
    exact ⟨ret_bool H.out, rfl⟩
theorem one_at (m : Int) (v : Bool) (h : oneB m = v) (w : World) :
    Calls Tryd.prog 79 #[.int .u8 m] w fun e w' => e = .returned (.bool v) ∧ w = w' :=
  (one_any m w).mono fun _ _ ⟨he, hw⟩ => ⟨by rw [he, h], hw⟩

theorem varsB_mono (l : List Int) : ∀ n k, k < n → varB l k = false → varsB l n = false
  | 0, k, h, _ => absurd h (by omega)
  | n + 1, k, h, hf => by
    rcases Nat.lt_or_ge k n with h1 | h1
    · simp [varsB, varsB_mono l n k h1 hf]
    · have : k = n := by omega
      subst this
      simp [varsB, hf]


end Go.Proofs.YtidamlkekgnhgaaDoor
