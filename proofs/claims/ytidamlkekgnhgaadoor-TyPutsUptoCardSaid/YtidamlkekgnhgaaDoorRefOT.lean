/- The contract of usufructref01.Text. -/
import Derived.Test.YtidamlkekgnhgaaDoorRefO
import Derived.Test.YtidamlkekgnhgaaDoorMultT
namespace Go.Proofs.YtidamlkekgnhgaaDoor
set_option linter.unusedVariables false
set_option linter.unusedSimpArgs false
open Go.RowKit

def rtext (m : Int) : ByteArray := if ofI m = 1 then tOne else if ofI m = 2 then tAff else tMany
theorem of_at (m v : Int) (h : ofI m = v) (w : World) :
    Calls Tryd.prog 83 #[.int .u8 m] w fun e w' => e = .returned (.int .u8 v) ∧ w = w' :=
  (of_any m w).mono fun _ _ ⟨he, hw⟩ => ⟨by rw [he, h], hw⟩
theorem ofI_cases (m : Int) : ofI m = 1 ∨ ofI m = 2 ∨ ofI m = 3 := by unfold ofI; repeat' split
                                                                      all_goals omega
theorem refText_any (m : Int) (w : World) :
    Calls Tryd.prog 70 #[.int .u8 m] w fun e w' => e = .returned (.string (rtext m)) ∧ w = w' := by
  rcases ofI_cases m with e | e | e
  · have H : Hid (rtext m = ⟨#[49]⟩) := by show _ = _; simp [rtext, e, tOne]
    have E := Lib.hid e; clear e
    go_enter Tryd.func70, Tryd.ntmps70
    go_wp2_with fail
    refine (of_at m _ E.out _).mono ?_; rintro e' w2 ⟨rfl, rfl⟩
    go_wp2_with fail
    go_ret
    exact ⟨by rw [H.out]; rfl, rfl⟩
  · have H : Hid (rtext m = ⟨#[63]⟩) := by show _ = _; simp [rtext, e, tAff]
    have E := Lib.hid e; clear e
    go_enter Tryd.func70, Tryd.ntmps70
    go_wp2_with fail
    refine (of_at m _ E.out _).mono ?_; rintro e' w2 ⟨rfl, rfl⟩
    go_wp2_with fail
    go_ret
    exact ⟨by rw [H.out]; rfl, rfl⟩
  · have H : Hid (rtext m = ⟨#[42]⟩) := by show _ = _; simp [rtext, e, tMany]
    have E := Lib.hid e; clear e
    go_enter Tryd.func70, Tryd.ntmps70
    go_wp2_with fail
    refine (of_at m _ E.out _).mono ?_; rintro e' w2 ⟨rfl, rfl⟩
    go_wp2_with fail
    go_ret
    exact ⟨by rw [H.out]; rfl, rfl⟩

end Go.Proofs.YtidamlkekgnhgaaDoor
