/- Contracts of package term: May and what it calls. -/
import Derived.Test.YthabkpkgocafoaaProg
import Derived.Test.YthabkpkgocafoaaTermDef
namespace Go.Proofs.Ythabkpkgocafoaa
set_option linter.unusedVariables false
set_option linter.unusedSimpArgs false
open Go.RowKit

theorem one_any (m : Int) (w : World) :
    Calls Try.prog 83 #[.int .u8 m] w fun e w' => e = .returned (.bool (oneB m)) ∧ w = w' := by
  by_cases h : 1 ≤ m
  · have hb : decide (1 ≤ m) = true := by simpa using h
    have H : Hid (decide (m ≤ 3) = oneB m) := by show _ = _; simp [oneB, h]
    clear h
    go_enter Try.func83, Try.ntmps83
    go_wp2_with fail
    go_ret
    exact ⟨ret_bool H.out, rfl⟩
  · have hb : decide (1 ≤ m) = false := by simpa using h
    have H : Hid (false = oneB m) := by show _ = _; simp [oneB, h]
    clear h
    go_enter Try.func83, Try.ntmps83
    go_wp2_with fail
    go_ret
    exact ⟨ret_bool H.out, rfl⟩
theorem one_at (m : Int) (v : Bool) (h : oneB m = v) (w : World) :
    Calls Try.prog 83 #[.int .u8 m] w fun e w' => e = .returned (.bool v) ∧ w = w' :=
  (one_any m w).mono fun _ _ ⟨he, hw⟩ => ⟨by rw [he, h], hw⟩

theorem varsB_mono (l : List Int) : ∀ n k, k < n → varB l k = false → varsB l n = false
  | 0, k, h, _ => absurd h (by omega)
  | n + 1, k, h, hf => by
    rcases Nat.lt_or_ge k n with h1 | h1
    · simp [varsB, varsB_mono l n k h1 hf]
    · have : k = n := by omega
      subst this
      simp [varsB, hf]

set_option maxHeartbeats 1000000 in
theorem may_any (v : Value) (t : TermD) (w : World) (B : Nat) (hv : TermV w B v t) (hB : B ≤ w.heap.size) :
    Calls Try.prog 78 #[v] w fun e w' => e = .returned (.int .i64 (mayE t)) ∧ Below w.heap.size w w' := by
  obtain ⟨A, n, c, rfl, hr⟩ := hv
  obtain ⟨nv, tc, vs⟩ := t
  have hlen := hr.len
  have Hlen := Lib.hid hlen
  clear hlen
  have hn63 : c ≤ 9223372036854775807 := hr.2.2
  have hnc := hr.2.1
  cases nv
  · cases h1 : oneB tc
    · have H : Hid (2 = mayE ⟨false, tc, vs⟩) := by show _ = _; rw [mayE_no]; simp [mayB, h1]
      have H1 := Lib.hid h1
      clear h1
      go_enter Try.func78, Try.ntmps78
      go_wp2_with fail
      refine (one_at _ _ H1.out _).mono ?_; rintro e w1 ⟨rfl, rfl⟩
      go_wp2_with fail
      go_ret
      exact ⟨ret_int H.out, (Below.refl _ _).alloc (Nat.le_refl _) _⟩
    · by_cases h2 : tc = 3 ∧ ¬ n = 0
      · obtain ⟨h3, h4⟩ := h2
        have H : Hid (2 = mayE ⟨false, tc, vs⟩) := by
          show _ = _
          rw [mayE_no]
          have : vs.isEmpty = false := by
            cases vs with
            | nil => have := Hlen.out; simp at this; omega
            | cons x r => rfl
          simp [mayB, h3, this]
        have H1 := Lib.hid h1
        have h5 : (tc == 3) = true := by simp [h3]
        have h6 : 0 < n := by omega
        clear h1 h3 h4
        go_enter Try.func78, Try.ntmps78
        go_wp2_with fail
        refine (one_at _ _ H1.out _).mono ?_; rintro e w1 ⟨rfl, rfl⟩
        go_wp2_with fail
        go_ret
        exact ⟨ret_int H.out, (Below.refl _ _).alloc (Nat.le_refl _) _⟩
      · have hE : ∀ b, varsB vs vs.length = b → mayB ⟨false, tc, vs⟩ = b := by
          intro b hb
          have hx : (tc == 3 && !vs.isEmpty) = false := by
            by_cases h3 : tc = 3
            · have hn0 : n = 0 := by
                rcases Nat.eq_zero_or_pos n with h | h
                · exact h
                · exact absurd ⟨h3, by omega⟩ h2
              have hvs : vs = [] := List.eq_nil_of_length_eq_zero (by rw [Hlen.out]; exact hn0)
              simp [hvs]
            · simp [h3]
          simp [mayB, h1, hx, hb]
        have HE := Lib.hid hE
        have H1 := Lib.hid h1
        clear hE h1
        have hcases : (tc == 3) = false ∨ ((tc == 3) = true ∧ n = 0) := by
          by_cases h3 : tc = 3
          · exact .inr ⟨by simp [h3], by rcases Nat.eq_zero_or_pos n with h | h; exact h; exact absurd ⟨h3, by omega⟩ h2⟩
          · exact .inl (by simp [h3])
        clear h2
        have hbel : Below w.heap.size w (w.alloc (Obj.cells #[.bool false, .int .u8 tc, .slice A n c] 99)) := (Below.refl _ _).alloc (Nat.le_refl _) _
        rcases hcases with h3 | ⟨h3, hn0⟩
        · go_enter Try.func78, Try.ntmps78
          go_wp2_with fail
          refine (one_at _ _ H1.out _).mono ?_; rintro e w1 ⟨rfl, rfl⟩
          go_wp2_with fail
          have hr1 := (hr.below ((Below.refl B w).alloc hB (Obj.cells #[.bool false, .int .u8 tc, .slice A n c] 99)))
          have hself : (w.alloc (Obj.cells #[.bool false, .int .u8 tc, .slice A n c] 99)).cell? ⟨w.heap.size, 2, none⟩ = some (.slice A n c) := by rw [World.cell?_alloc_new]; rfl
          generalize w.alloc (Obj.cells #[.bool false, .int .u8 tc, .slice A n c] 99) = W at hbel hr1 hself ⊢
          go_loopg [3, 4, 34] n (fun g _ _ i wr => ∃ k : Nat, k ≤ n ∧ g = n - k ∧ i = .int .i64 k ∧ varsB vs k = true ∧ W = wr)
          case atStart => exact ⟨0, Nat.zero_le _, rfl, rfl, rfl, rfl⟩
          case round =>
            obtain ⟨k, hk, rfl, rfl, hvb, rfl⟩ := hrel
            have Hvb := Lib.hid hvb
            clear hvb
            by_cases hlt : k < n
            · obtain ⟨b, off, hA, hb, hcell⟩ := hr1.at_ (by omega)
              have hk' : k < vs.length := by rw [Hlen.out]; exact hlt
              have hc1 := hcell k hk'
              have hg : vs.getD k 0 = vs[k] := by simp [List.getD, hk']
              have Hg := Lib.hid hg
              have hsnoc : varsB vs (k + 1) = (varsB vs k && varB vs k) := rfl
              have Hs := Lib.hid hsnoc
              clear hg hsnoc
              subst hA
              have Hcell := Lib.hid hcell
              clear hcell hr
              by_cases c1 : vs[k] < 0
              · have d1 : decide (vs[k] < 0) = true := by simpa using c1
                have HF : Hid (2 = mayE ⟨false, tc, vs⟩) := by
                  show _ = _
                  rw [mayE_no (HE.out false (varsB_mono vs vs.length k hk' (by unfold varB; rw [Hg.out, decide_eq_false (by omega : ¬ 0 ≤ vs[k])]; rfl)))]
                clear Hs
                go_wp2_with fail
                go_ret
                exact ⟨ret_int HF.out, hbel⟩
              · have d1 : decide (vs[k] < 0) = false := by simpa using c1
                by_cases c2 : 1048576 ≤ vs[k]
                · have d2 : decide (1048576 ≤ vs[k]) = true := by simpa using c2
                  have HF : Hid (2 = mayE ⟨false, tc, vs⟩) := by
                    show _ = _
                    rw [mayE_no (HE.out false (varsB_mono vs vs.length k hk' (by unfold varB; rw [Hg.out, decide_eq_false (by omega : ¬ vs[k] < 1048576), Bool.and_false]; rfl)))]
                  clear Hs
                  go_wp2_with fail
                  go_ret
                  exact ⟨ret_int HF.out, hbel⟩
                · have d2 : decide (1048576 ≤ vs[k]) = false := by simpa using c2
                  by_cases c3 : k = 0
                  · subst c3
                    have hc0 : W.cell? ⟨b, off, none⟩ = some (.int .i64 (vs[0]'hk')) := hc1
                    clear hc1
                    have HF : Hid (varsB vs (0 + 1) = true) := by show _ = _; rw [Hs.out, Hvb.out, Bool.true_and]; unfold varB; rw [Hg.out, Bool.and_eq_true, Bool.and_eq_true, Bool.or_eq_true, decide_eq_true_eq, decide_eq_true_eq, decide_eq_true_eq]; omega
                    clear Hs
                    go_wp2_with fail
                    go_roundg (n - (0 + 1))
                    case measure => omega
                    case rel => exact ⟨0 + 1, by omega, rfl, by go_num, HF.out, rfl⟩
                  · have d4 : 0 < k := by omega
                    have hk1 : k - 1 < vs.length := by omega
                    have hg1 : vs.getD (k - 1) 0 = vs[k - 1] := by simp [List.getD, hk1]
                    have Hg1 := Lib.hid hg1
                    clear hg1
                    have hc2 : W.cell? ⟨b, off + (k - 1), none⟩ = some (.int .i64 (vs[k - 1]'hk1)) := Hcell.out (k - 1) hk1
                    by_cases c4 : vs[k] ≤ vs[k - 1]
                    · have d5 : decide (vs[k] ≤ vs[k - 1]) = true := by simpa using c4
                      have HF : Hid (2 = mayE ⟨false, tc, vs⟩) := by
                        show _ = _
                        rw [mayE_no (HE.out false (varsB_mono vs vs.length k hk' (by unfold varB; rw [Hg.out, Hg1.out, decide_eq_false (by omega : ¬ vs[k - 1] < vs[k]), decide_eq_false c3, Bool.or_false, Bool.and_false])))]
                      clear Hs
                      go_wp2_with fail
                      go_ret
                      exact ⟨ret_int HF.out, hbel⟩
                    · have d5 : decide (vs[k] ≤ vs[k - 1]) = false := by simpa using c4
                      have HF : Hid (varsB vs (k + 1) = true) := by show _ = _; rw [Hs.out, Hvb.out, Bool.true_and]; unfold varB; rw [Hg.out, Hg1.out, decide_eq_true (by omega : 0 ≤ vs[k]), decide_eq_true (by omega : vs[k] < 1048576), decide_eq_true (by omega : vs[k - 1] < vs[k]), Bool.or_true]; rfl
                      clear Hs
                      go_wp2_with fail
                      go_roundg (n - (k + 1))
                      case measure => omega
                      case rel => exact ⟨k + 1, by omega, rfl, by go_num, HF.out, rfl⟩
            · have hkn : k = n := by omega
              subst hkn
              have HF : Hid (0 = mayE ⟨false, tc, vs⟩) := by
                show _ = _
                rw [mayE_yes (HE.out true (by rw [Hlen.out]; exact Hvb.out))]
              go_wp2_with fail
              go_ret
              exact ⟨ret_int HF.out, hbel⟩
        · have HF : Hid (0 = mayE ⟨false, tc, vs⟩) := by
            show _ = _
            have hvs : vs = [] := List.eq_nil_of_length_eq_zero (by rw [Hlen.out]; exact hn0)
            rw [mayE_yes (HE.out true (by rw [hvs]; rfl))]
          subst hn0
          go_enter Try.func78, Try.ntmps78
          go_wp2_with fail
          refine (one_at _ _ H1.out _).mono ?_; rintro e w1 ⟨rfl, rfl⟩
          go_wp2_with fail
          refine wp_loop_rounds 1 ?_; rw [rounds_succ]
          go_wp2_with fail
          go_ret
          exact ⟨ret_int HF.out, hbel⟩
  · by_cases h1 : tc = 0
    · by_cases h2 : n = 0
      · have H : Hid (0 = mayE ⟨true, tc, vs⟩) := by
          show _ = _
          have hvs : vs = [] := List.eq_nil_of_length_eq_zero (by rw [Hlen.out]; exact h2)
          rw [mayE_yes]; simp [mayB, h1, hvs]
        have h3 : (tc != 0) = false := by simp [h1]
        clear h1
        go_enter Try.func78, Try.ntmps78
        go_wp2_with fail
        go_ret
        exact ⟨ret_int H.out, (Below.refl _ _).alloc (Nat.le_refl _) _⟩
      · have H : Hid (2 = mayE ⟨true, tc, vs⟩) := by
          show _ = _
          have : vs.isEmpty = false := by
            cases vs with
            | nil => have := Hlen.out; simp at this; omega
            | cons x r => rfl
          rw [mayE_no]; simp [mayB, this]
        have h3 : (tc != 0) = false := by simp [h1]
        have h4 : 0 < n := by omega
        clear h1
        go_enter Try.func78, Try.ntmps78
        go_wp2_with fail
        go_ret
        exact ⟨ret_int H.out, (Below.refl _ _).alloc (Nat.le_refl _) _⟩
    · have H : Hid (2 = mayE ⟨true, tc, vs⟩) := by show _ = _; rw [mayE_no]; simp [mayB, h1]
      have h3 : (tc != 0) = true := by simp [h1]
      clear h1
      go_enter Try.func78, Try.ntmps78
      go_wp2_with fail
      go_ret
      exact ⟨ret_int H.out, (Below.refl _ _).alloc (Nat.le_refl _) _⟩

end Go.Proofs.Ythabkpkgocafoaa
