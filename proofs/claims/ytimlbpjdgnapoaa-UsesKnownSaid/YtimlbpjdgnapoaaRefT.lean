/- The contracts of package usufructref02. -/
import Derived.Test.YtimlbpjdgnapoaaMem
import Derived.Test.YtimlbpjdgnapoaaTermDef
namespace Go.Proofs.Ytimlbpjdgnapoaa
set_option linter.unusedVariables false
set_option linter.unusedSimpArgs false
open Go.RowKit

theorem has_any (A : Option Addr) (n c : Nat) (us : List Int) (v : Int) (w : World) (B : Nat) (h : RdI .i64 w B A n c us) (hB : B ≤ w.heap.size) :
    Calls Try.prog 100 #[.slice A n c, .int .i64 v] w fun e w' => e = .returned (.bool (us.contains v)) ∧ Below w.heap.size w w' := by
  have hl := h.len
  have Hl := Lib.hid hl
  clear hl
  have hn63 : n ≤ 9223372036854775807 := Nat.le_trans h.2.1 h.2.2
  go_enter Try.func100, Try.ntmps100
  go_wp2_with fail
  go_loopg [5] n (fun g i wr => ∃ k : Nat, k ≤ n ∧ g = n - k ∧ i = .int .i64 k ∧ (us.take k).contains v = false ∧ Below w.heap.size w wr)
  case atStart => exact ⟨0, Nat.zero_le _, rfl, rfl, by simp, Below.refl _ _⟩
  case round =>
    obtain ⟨k, hk, rfl, rfl, hno, hbel⟩ := hrel
    have Hno := Lib.hid hno
    clear hno
    by_cases hlk : k < n
    · have hk' : k < us.length := by rw [Hl.out]; exact hlk
      obtain ⟨b, off, rfl, hb, hcell⟩ := ((h.more hB).below hbel).at_ (by omega)
      have hc := hcell k hk'
      have hstep : (us.take (k + 1)).contains v = (us[k] == v) := by
        rw [List.take_succ_eq_append_getElem hk', List.contains_eq_any_beq, List.any_append, ← List.contains_eq_any_beq, Hno.out]
        simp [Bool.beq_comm, eq_comm]
      have Hstep := Lib.hid hstep
      clear hstep hcell h
      by_cases e : us[k] = v
      · have e1 : (us[k] == v) = true := by simp [e]
        have hin : us.contains v = true := by rw [List.contains_iff_mem, ← e]; exact List.getElem_mem _
        have Hin := Lib.hid hin
        clear hin e
        go_wp2_with fail
        go_ret
        exact ⟨by rw [Hin.out]; rfl, by first | exact hbel | exact hbel.drew⟩
      · have e1 : (us[k] == v) = false := by simp [e]
        clear e
        go_wp2_with fail
        go_roundg (n - (k + 1))
        case measure => omega
        case rel => exact ⟨k + 1, by omega, rfl, by go_num, by rw [Hstep.out, e1], by first | exact hbel | exact hbel.drew⟩
    · have hkn : k = n := by omega
      subst hkn
      have hall : us.contains v = false := by
        have := Hno.out
        rw [List.take_of_length_le (by rw [Hl.out]; exact Nat.le_refl _)] at this
        exact this
      have Hall := Lib.hid hall
      clear hall
      go_wp2_with fail
      go_ret
      exact ⟨by rw [Hall.out]; rfl, hbel⟩

end Go.Proofs.Ytimlbpjdgnapoaa
