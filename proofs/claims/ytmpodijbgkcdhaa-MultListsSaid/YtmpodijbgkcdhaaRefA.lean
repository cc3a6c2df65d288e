/- Contracts of package usufructref01's functions: uses as sets of numbers of times. -/
import Derived.Test.YtmpodijbgkcdhaaMult
import Derived.Deep.OwnRows
import Derived.BigGuardPart
namespace Go.Proofs.Ytmpodijbgkcdhaa
set_option linter.unusedVariables false
set_option linter.unusedSimpArgs false
open Go.RowKit

def letsI (u n : Int) : Bool := if u = 0 then n == 0 else if u = 1 then n == 1 else if u = 2 then decide (n ≤ 1) else true
theorem lets_any (u n : Int) (w : World) :
    Calls Try.prog 24 #[.int .u8 u, .int .i64 n] w fun e w' => e = .returned (.bool (letsI u n)) ∧ w = w' := by
  by_cases h0 : u = 0
  · have hb : (u == 0) = true := by simp [h0]
    have H : Hid ((n == 0) = letsI u n) := by show _ = _; simp [letsI, h0]
    clear h0
    go_enter Try.func24, Try.ntmps24
    go_wp2_with fail
    go_ret
    exact ⟨ret_bool H.out, rfl⟩
  · have hb : (u == 0) = false := by simp [h0]
    by_cases h1 : u = 1
    · have hb1 : (u == 1) = true := by simp [h1]
      have H : Hid ((n == 1) = letsI u n) := by show _ = _; simp [letsI, h1]
      clear h0 h1
      go_enter Try.func24, Try.ntmps24
      go_wp2_with fail
      go_ret
      exact ⟨ret_bool H.out, rfl⟩
    · have hb1 : (u == 1) = false := by simp [h1]
      by_cases h2 : u = 2
      · have hb2 : (u == 2) = true := by simp [h2]
        have H : Hid (decide (n ≤ 1) = letsI u n) := by show _ = _; simp [letsI, h2]
        clear h0 h1 h2
        go_enter Try.func24, Try.ntmps24
        go_wp2_with fail
        go_ret
        exact ⟨ret_bool H.out, rfl⟩
      · have hb2 : (u == 2) = false := by simp [h2]
        have H : Hid (true = letsI u n) := by show _ = _; simp [letsI, h0, h1, h2]
        clear h0 h1 h2
        go_enter Try.func24, Try.ntmps24
        go_wp2_with fail
        go_ret
        exact ⟨ret_bool H.out, rfl⟩

def ofI (m : Int) : Int := if m = 0 then 1 else if m = 1 then 1 else if m = 2 then 2 else 3
theorem of_any (m : Int) (w : World) :
    Calls Try.prog 27 #[.int .u8 m] w fun e w' => e = .returned (.int .u8 (ofI m)) ∧ w = w' := by
  by_cases h0 : m = 0
  · have hb : (m == 0) = true := by simp [h0]
    have H : Hid (1 = ofI m) := by show _ = _; simp [ofI, h0]
    clear h0
    go_enter Try.func27, Try.ntmps27
    go_wp2_with fail
    go_ret
    exact ⟨ret_int H.out, rfl⟩
  · have hb : (m == 0) = false := by simp [h0]
    by_cases h1 : m = 1
    · have hb1 : (m == 1) = true := by simp [h1]
      have H : Hid (1 = ofI m) := by show _ = _; simp [ofI, h1]
      clear h0 h1
      go_enter Try.func27, Try.ntmps27
      go_wp2_with fail
      go_ret
      exact ⟨ret_int H.out, rfl⟩
    · have hb1 : (m == 1) = false := by simp [h1]
      by_cases h2 : m = 2
      · have hb2 : (m == 2) = true := by simp [h2]
        have H : Hid (2 = ofI m) := by show _ = _; simp [ofI, h2]
        clear h0 h1 h2
        go_enter Try.func27, Try.ntmps27
        go_wp2_with fail
        go_ret
        exact ⟨ret_int H.out, rfl⟩
      · have hb2 : (m == 2) = false := by simp [h2]
        have H : Hid (3 = ofI m) := by show _ = _; simp [ofI, h0, h1, h2]
        clear h0 h1 h2
        go_enter Try.func27, Try.ntmps27
        go_wp2_with fail
        go_ret
        exact ⟨ret_int H.out, rfl⟩

/-- the first k of four truths are let be by the use u -/
def okTo (f : Nat → Bool) (u : Int) : Nat → Bool
  | 0 => true
  | k + 1 => okTo f u k && (!f k || letsI u k)
def leastB (f : Nat → Bool) : Int := if okTo f 0 4 then 0 else if okTo f 1 4 then 1 else if okTo f 2 4 then 2 else 3

theorem leastB_lo (f : Nat → Bool) : 0 ≤ leastB f := by unfold leastB; repeat' split
                                                        all_goals omega
theorem leastB_hi (f : Nat → Bool) : leastB f ≤ 3 := by unfold leastB; repeat' split
                                                        all_goals omega

set_option maxHeartbeats 800000 in
theorem leastB_any (f : Nat → Bool) (w : World) :
    Calls Try.prog 25 #[.agg #[.bool (f 0), .bool (f 1), .bool (f 2), .bool (f 3)]] w fun e w' => e = .returned (.int .u8 (leastB f)) ∧ Below w.heap.size w w' := by
  go_enter Try.func25, Try.ntmps25
  go_wp2_with fail
  have hb : Below w.heap.size w (w.alloc (Obj.cells #[Value.bool (f 0), Value.bool (f 1), Value.bool (f 2), Value.bool (f 3)] 42)) := (Below.refl _ _).alloc (Nat.le_refl _) _
  have hcell : ∀ k, k < 4 → (w.alloc (Obj.cells #[Value.bool (f 0), Value.bool (f 1), Value.bool (f 2), Value.bool (f 3)] 42)).cell? ⟨w.heap.size, k, none⟩ = some (.bool (f k)) := by
    intro k hk
    rw [World.cell?_alloc_new]
    match k, hk with
    | 0, _ => rfl
    | 1, _ => rfl
    | 2, _ => rfl
    | 3, _ => rfl
  generalize w.alloc (Obj.cells #[Value.bool (f 0), Value.bool (f 1), Value.bool (f 2), Value.bool (f 3)] 42) = W at hb hcell ⊢
  have Hcell := Lib.hid hcell
  clear hcell
  go_loop [3] (fun u => ∃ k : Nat, k ≤ 3 ∧ u = .int .u8 k ∧ ∀ j : Nat, j < k → okTo f j 4 = false) (fun u => 3 - (intOf u).toNat)
  case atStart => exact ⟨0, by omega, rfl, fun j hj => absurd hj (by omega)⟩
  case round =>
    obtain ⟨k, hk, rfl, hno⟩ := hrel
    have Hno := Lib.hid hno
    clear hno
    by_cases hlt : k < 3
    · go_wp2_with fail
      go_loop [4, 5] (fun ok n => ∃ m : Nat, m ≤ 4 ∧ n = .int .i64 m ∧ ok = .bool (okTo f k m)) (fun _ n => 4 - (intOf n).toNat)
      case atStart => exact ⟨0, by omega, rfl, rfl⟩
      case round =>
        obtain ⟨m, hm, rfl, rfl⟩ := hrel
        by_cases hlm : m < 4
        · have hc := Hcell.out m hlm
          have HO : Hid (okTo f k (m + 1) = (okTo f k m && (!f m || letsI k m))) := rfl
          by_cases h1 : okTo f k m = true
          · rw [h1]
            have H1 := Lib.hid h1
            clear h1
            by_cases h2 : f m = true
            · rw [h2] at hc
              have H2 := Lib.hid h2
              clear h2
              go_wp2_with (go_at_call 24; refine (lets_any _ _ _).mono ?_; rintro e w' ⟨rfl, rfl⟩)
              go_round
              case rel => exact ⟨m + 1, by omega, by go_num, by rw [HO.out]; simp [H1.out, H2.out]⟩
              case measure => simp [intOf]; omega
            · have h2' : f m = false := by simpa using h2
              rw [h2'] at hc
              have H2 := Lib.hid h2'
              clear h2 h2'
              go_wp2_with (go_at_call 24; refine (lets_any _ _ _).mono ?_; rintro e w' ⟨rfl, rfl⟩)
              go_round
              case rel => exact ⟨m + 1, by omega, by go_num, by rw [HO.out]; simp [H1.out, H2.out]⟩
              case measure => simp [intOf]; omega
          · have h1' : okTo f k m = false := by simpa using h1
            rw [h1']
            have H1 := Lib.hid h1'
            clear h1 h1'
            go_wp2_with (go_at_call 24; refine (lets_any _ _ _).mono ?_; rintro e w' ⟨rfl, rfl⟩)
            go_round
            case rel => exact ⟨m + 1, by omega, by go_num, by rw [HO.out]; simp [H1.out]⟩
            case measure => simp [intOf]; omega
        · have hm4 : m = 4 := by omega
          subst hm4
          clear hlm
          by_cases h1 : okTo f k 4 = true
          · have HL : Hid ((k : Int) = leastB f) := by
              show _ = _
              have hno := Hno.out
              match k, hlt, h1, hno with
              | 0, _, h1, _ => simp only [leastB]; rw [if_pos (by exact h1)]; rfl
              | 1, _, h1, hno => simp only [leastB]; rw [if_neg (by have := hno 0 (by omega); simp at this; simp [this]), if_pos (by exact h1)]; rfl
              | 2, _, h1, hno => simp only [leastB]; rw [if_neg (by have := hno 0 (by omega); simp at this; simp [this]), if_neg (by have := hno 1 (by omega); simp at this; simp [this]), if_pos (by exact h1)]; rfl
            rw [h1]
            clear h1
            go_wp2_with fail
            go_ret
            exact ⟨ret_int HL.out, hb⟩
          · have h1' : okTo f k 4 = false := by simpa using h1
            clear h1
            rw [h1']
            have H1 := Lib.hid h1'
            clear h1'
            go_wp2_with fail
            go_round
            case rel =>
              refine ⟨k + 1, by omega, by go_num, fun j hj => ?_⟩
              rcases Nat.lt_or_ge j k with h | h
              · exact Hno.out j h
              · have : j = k := by omega
                subst this
                exact H1.out
            case measure => simp [intOf]; omega
    · have hk3 : k = 3 := by omega
      subst hk3
      have HL : Hid (3 = leastB f) := by
        show _ = _
        have hno := Hno.out
        simp only [leastB]
        rw [if_neg (by have := hno 0 (by omega); simp at this; simp [this]), if_neg (by have := hno 1 (by omega); simp at this; simp [this]), if_neg (by have := hno 2 (by omega); simp at this; simp [this])]
      clear hlt
      go_wp2_with fail
      go_ret
      exact ⟨ret_int HL.out, hb⟩

end Go.Proofs.Ytmpodijbgkcdhaa
