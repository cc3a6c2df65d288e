/- Contracts of package mult's functions on texts: texts, Text, Parse. -/
import Derived.Test.YtidamlkekgnhgaaDoorMult
namespace Go.Proofs.YtidamlkekgnhgaaDoor
set_option linter.unusedVariables false
set_option linter.unusedSimpArgs false
open Go.RowKit

def tOne : ByteArray := ⟨#[49]⟩
def tAff : ByteArray := ⟨#[63]⟩
def tMany : ByteArray := ⟨#[42]⟩

theorem texts_any (w : World) :
    Calls Tryd.prog 86 #[] w fun e w' => e = .returned (.agg #[.string ⟨#[49]⟩, .string ⟨#[63]⟩, .string ⟨#[42]⟩]) ∧ Below w.heap.size w w' := by
  go_enter Tryd.func86, Tryd.ntmps86
  go_wp2_with fail
  exact bodyPost_ret (v := .agg #[.string ⟨#[49]⟩, .string ⟨#[63]⟩, .string ⟨#[42]⟩]) (by simp [results, Tryd.results86, go_sem]) rfl ⟨rfl, (Below.refl _ _).alloc (Nat.le_refl _) _⟩

def mtext (m : Int) : ByteArray := if nearI m = 1 then tOne else if nearI m = 2 then tAff else tMany

theorem near_at (m v : Int) (h : nearI m = v) (w : World) :
    Calls Tryd.prog 87 #[.int .u8 m] w fun e w' => e = .returned (.int .u8 v) ∧ w = w' :=
  (near_any m w).mono fun _ _ ⟨he, hw⟩ => ⟨by rw [he, h], hw⟩

theorem text_any (m : Int) (w : World) :
    Calls Tryd.prog 74 #[.int .u8 m] w fun e w' => e = .returned (.string (mtext m)) ∧ Below w.heap.size w w' := by
  have l := nearI_lo m
  have h := nearI_hi m
  have i0 : ∀ w, (Instr.index 112 (.agg #[.string ⟨#[49]⟩, .string ⟨#[63]⟩, .string ⟨#[42]⟩]) (.int .u8 0)).run Tryd.prog w = .ok (.string ⟨#[49]⟩) w := fun _ => by kernel_rfl
  have i1 : ∀ w, (Instr.index 112 (.agg #[.string ⟨#[49]⟩, .string ⟨#[63]⟩, .string ⟨#[42]⟩]) (.int .u8 1)).run Tryd.prog w = .ok (.string ⟨#[63]⟩) w := fun _ => by kernel_rfl
  have i2 : ∀ w, (Instr.index 112 (.agg #[.string ⟨#[49]⟩, .string ⟨#[63]⟩, .string ⟨#[42]⟩]) (.int .u8 2)).run Tryd.prog w = .ok (.string ⟨#[42]⟩) w := fun _ => by kernel_rfl
  have hcase : nearI m = 1 ∨ nearI m = 2 ∨ nearI m = 3 := by omega
  clear l h
  go_enter Tryd.func74, Tryd.ntmps74
  go_wp2_with (go_at_call 86; refine (texts_any _).mono ?_; rintro e w1 ⟨rfl, hb1⟩)
  rcases hcase with e | e | e
  · refine (near_at m 1 e _).mono ?_
    rintro e' w2 ⟨rfl, rfl⟩
    have H : Hid (mtext m = ⟨#[49]⟩) := by show _ = _; simp [mtext, e, tOne]
    clear e
    go_wp2_with fail
    go_ret
    exact ⟨by rw [H.out]; rfl, hb1⟩
  · refine (near_at m 2 e _).mono ?_
    rintro e' w2 ⟨rfl, rfl⟩
    have H : Hid (mtext m = ⟨#[63]⟩) := by show _ = _; simp [mtext, e, tAff]
    clear e
    go_wp2_with fail
    go_ret
    exact ⟨by rw [H.out]; rfl, hb1⟩
  · refine (near_at m 3 e _).mono ?_
    rintro e' w2 ⟨rfl, rfl⟩
    have H : Hid (mtext m = ⟨#[42]⟩) := by show _ = _; simp [mtext, e, tMany]
    clear e
    go_wp2_with fail
    go_ret
    exact ⟨by rw [H.out]; rfl, hb1⟩

end Go.Proofs.YtidamlkekgnhgaaDoor
