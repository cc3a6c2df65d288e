/- The contract of mult.Parse. -/
import Derived.Test.YtmpodijbgkcdhaaMultT
namespace Go.Proofs.Ytmpodijbgkcdhaa
set_option linter.unusedVariables false
set_option linter.unusedSimpArgs false
open Go.RowKit

def tAt (k : Nat) : ByteArray := if k = 0 then ⟨#[49]⟩ else if k = 1 then ⟨#[63]⟩ else ⟨#[42]⟩
def parseM (s : ByteArray) : Int := if s = tAt 0 then 1 else if s = tAt 1 then 2 else if s = tAt 2 then 3 else 0
def parseE (s : ByteArray) : Int := if s = tAt 0 then 0 else if s = tAt 1 then 0 else if s = tAt 2 then 0 else 2

set_option maxHeartbeats 400000 in
theorem parse_any (s : ByteArray) (w : World) :
    Calls Try.prog 23 #[.string s] w fun e w' => e = .returned (.tuple #[.int .u8 (parseM s), .int .i64 (parseE s)]) ∧ Below w.heap.size w w' := by
  have i0 : ∀ w, (Instr.index 46 (.agg #[.string ⟨#[49]⟩, .string ⟨#[63]⟩, .string ⟨#[42]⟩]) (.int .i64 0)).run Try.prog w = .ok (.string ⟨#[49]⟩) w := fun _ => by kernel_rfl
  have i1 : ∀ w, (Instr.index 46 (.agg #[.string ⟨#[49]⟩, .string ⟨#[63]⟩, .string ⟨#[42]⟩]) (.int .i64 1)).run Try.prog w = .ok (.string ⟨#[63]⟩) w := fun _ => by kernel_rfl
  have i2 : ∀ w, (Instr.index 46 (.agg #[.string ⟨#[49]⟩, .string ⟨#[63]⟩, .string ⟨#[42]⟩]) (.int .i64 2)).run Try.prog w = .ok (.string ⟨#[42]⟩) w := fun _ => by kernel_rfl
  have ix : ∀ k : Nat, k < 3 → ∀ w, (Instr.index 46 (.agg #[.string ⟨#[49]⟩, .string ⟨#[63]⟩, .string ⟨#[42]⟩]) (.int .i64 (k : Int))).run Try.prog w = .ok (.string (tAt k)) w := by
    intro k hk w
    match k, hk with
    | 0, _ => exact i0 w
    | 1, _ => exact i1 w
    | 2, _ => exact i2 w
  have IX := Lib.hid ix
  clear ix i0 i1 i2
  go_enter Try.func23, Try.ntmps23
  go_wp2_with fail
  refine (texts_any _).mono ?_; rintro e w1 ⟨rfl, hb1⟩
  go_wp2_with fail
  go_loopg [7] 3 (fun g i wr => ∃ k : Nat, k ≤ 3 ∧ g = 3 - k ∧ i = .int .i64 k ∧ (∀ j : Nat, j < k → ¬ s = tAt j) ∧ w1 = wr)
  case atStart => exact ⟨0, by omega, rfl, rfl, fun j hj => absurd hj (by omega), rfl⟩
  case round =>
    obtain ⟨k, hk, rfl, rfl, hno, rfl⟩ := hrel
    have Hno := Lib.hid hno
    clear hno
    by_cases hlt : k < 3
    · have ik := IX.out k hlt
      by_cases hs : s = tAt k
      · have hb : ((tAt k).toList == s.toList) = true := by rw [hs]; simp
        have HM : Hid ((k : Int) + 1 = parseM s ∧ 0 = parseE s) := by
          have hno := Hno.out
          match k, hlt, hs, hno with
          | 0, _, hs, _ => exact ⟨by unfold parseM; rw [if_pos hs]; rfl, by unfold parseE; rw [if_pos hs]⟩
          | 1, _, hs, hno => exact ⟨by unfold parseM; rw [if_neg (hno 0 (by omega)), if_pos hs]; rfl, by unfold parseE; rw [if_neg (hno 0 (by omega)), if_pos hs]⟩
          | 2, _, hs, hno => exact ⟨by unfold parseM; rw [if_neg (hno 0 (by omega)), if_neg (hno 1 (by omega)), if_pos hs]; rfl, by unfold parseE; rw [if_neg (hno 0 (by omega)), if_neg (hno 1 (by omega)), if_pos hs]⟩
        clear hs
        go_wp2_with fail
        go_ret2
        obtain ⟨e1, e2⟩ := HM.out
        exact ⟨ret_two (v_int e1) (v_int e2), hb1⟩
      · have hb : ((tAt k).toList == s.toList) = false := by rw [str_eq]; simp; exact fun e => hs e.symm
        have Hs := Lib.hid hs
        clear hs
        go_wp2_with fail
        go_roundg (3 - (k + 1))
        case measure => omega
        case rel =>
          refine ⟨k + 1, by omega, rfl, by go_num, fun j hj => ?_, rfl⟩
          rcases Nat.lt_or_ge j k with h | h
          · exact Hno.out j h
          · have : j = k := by omega
            subst this
            exact Hs.out
    · have hk3 : k = 3 := by omega
      subst hk3
      have HM : Hid (0 = parseM s ∧ 2 = parseE s) := by
        have hno := Hno.out
        exact ⟨by unfold parseM; rw [if_neg (hno 0 (by omega)), if_neg (hno 1 (by omega)), if_neg (hno 2 (by omega))], by unfold parseE; rw [if_neg (hno 0 (by omega)), if_neg (hno 1 (by omega)), if_neg (hno 2 (by omega))]⟩
      go_wp2_with fail
      go_ret2
      obtain ⟨e1, e2⟩ := HM.out
      exact ⟨ret_two (v_int e1) (v_int e2), hb1⟩

end Go.Proofs.Ytmpodijbgkcdhaa
