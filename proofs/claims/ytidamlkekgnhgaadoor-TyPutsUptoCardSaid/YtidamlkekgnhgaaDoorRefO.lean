/- The contract of usufructref01.Of. -/
import Derived.Test.YtidamlkekgnhgaaDoorMult
namespace Go.Proofs.YtidamlkekgnhgaaDoor
set_option linter.unusedVariables false
set_option linter.unusedSimpArgs false
open Go.RowKit

def ofI (m : Int) : Int := if m = 0 then 1 else if m = 1 then 1 else if m = 2 then 2 else 3
theorem of_any (m : Int) (w : World) :
    Calls Tryd.prog 83 #[.int .u8 m] w fun e w' => e = .returned (.int .u8 (ofI m)) ∧ w = w' := by
  by_cases h0 : m = 0
  · have hb : (m == 0) = true := by simp [h0]
    have H : Hid (1 = ofI m) := by show _ = _; simp [ofI, h0]
    clear h0
    go_enter Tryd.func83, Tryd.ntmps83
    go_wp2_with fail
    go_ret
    exact ⟨ret_int H.out, rfl⟩
  · have hb : (m == 0) = false := by simp [h0]
    by_cases h1 : m = 1
    · have hb1 : (m == 1) = true := by simp [h1]
      have H : Hid (1 = ofI m) := by show _ = _; simp [ofI, h1]
      clear h0 h1
      go_enter Tryd.func83, Tryd.ntmps83
      go_wp2_with fail
      go_ret
      exact ⟨ret_int H.out, rfl⟩
    · have hb1 : (m == 1) = false := by simp [h1]
      by_cases h2 : m = 2
      · have hb2 : (m == 2) = true := by simp [h2]
        have H : Hid (2 = ofI m) := by show _ = _; simp [ofI, h2]
        clear h0 h1 h2
        go_enter Tryd.func83, Tryd.ntmps83
        go_wp2_with fail
        go_ret
        exact ⟨ret_int H.out, rfl⟩
      · have hb2 : (m == 2) = false := by simp [h2]
        have H : Hid (3 = ofI m) := by show _ = _; simp [ofI, h0, h1, h2]
        clear h0 h1 h2
        go_enter Tryd.func83, Tryd.ntmps83
        go_wp2_with fail
        go_ret
        exact ⟨ret_int H.out, rfl⟩

end Go.Proofs.YtidamlkekgnhgaaDoor
