/- LeastBelow holds for every input: where any assignment is a solution over any least ones, one is told that is nowhere above it. No conditions. -/
import Derived.Test.YthabkpkgocafoaaLawM
import Derived.Test.YthabkpkgocafoaaRowQ
namespace Go.Proofs.Ythabkpkgocafoaa
set_option linter.unusedVariables false
set_option linter.unusedSimpArgs false
open Go.ChangeShapes Go.WideShapes Go.ChangeAt Go.RowKit

set_option maxRecDepth 100000 in
set_option maxHeartbeats 2000000 in
theorem walkA_leastBelow (Aw : Option Addr) (nw cw : Nat) (low : List Int) (Al : Option Addr) (nl cl : Nat) (xs : List IneqD) (Aa : Option Addr) (N ca : Nat) (asg : List Int) (w : World) (hlw : RdI .u8 w w.heap.size Aw nw cw low) (hx : IneqsV w w.heap.size Al nl cl xs) (ha : RdI .u8 w w.heap.size Aa N ca asg) :
    Calls Try.prog 7 #[.slice Aw nw cw, .slice Al nl cl, .slice Aa N ca] w fun e w' => e = .returned (.bool true) ∧ Below w.heap.size w w' := by
  have hxl := hx.len
  have hll := hlw.len
  have Hal := Lib.hid ha.len
  have Hlw := Lib.hid hlw
  have Hx := Lib.hid hx
  have Ha := Lib.hid ha
  have n63 : N ≤ 9223372036854775807 := Nat.le_trans ha.2.1 ha.2.2
  clear hlw hx ha
  cases hG : greatL N nw nl with
  | true =>
    have HG := Lib.hid hG
    clear hG
    go_enter Try.func7, Try.ntmps7
    go_wp2_with fail
    refine (greatL_any true N Aw nw cw Al nl cl w HG.out).mono ?_; rintro e w1 ⟨rfl, rfl⟩
    have Hbw := Lib.hid (Below.refl w.heap.size w)
    go_wp2_with fail
    refine (worksL_any _).mono ?_
    rintro e w8 ⟨rfl, hb8⟩
    have Hb8 := Lib.hid (Hbw.out.trans (hb8.mono Hbw.out.size))
    clear hb8
    go_wp2_with fail
    go_ret
    exact ⟨by first | rfl | decide | simp, Hb8.out⟩
  | false =>
    have hg : N ≤ 200 ∧ nl ≤ 400 := by unfold greatL at hG; simp at hG; omega
    have HG := Lib.hid hG
    clear hG
    obtain ⟨hn200, hl400⟩ := hg
    by_cases h4 : 0 < nw ∧ nw ≠ N
    · have d4 : decide ((nw : Int) > 0) = true := by simp; omega
      have d4' : 0 < nw := by omega
      have d5 : ((nw : Int) != (N : Int)) = true := by simp; omega
      clear h4
      go_enter Try.func7, Try.ntmps7
      go_wp2_with fail
      refine (greatL_any false N Aw nw cw Al nl cl w HG.out).mono ?_; rintro e w1 ⟨rfl, rfl⟩
      have Hbw := Lib.hid (Below.refl w.heap.size w)
      go_wp2_with fail
      refine (worksL_any _).mono ?_
      rintro e w8 ⟨rfl, hb8⟩
      have Hb8 := Lib.hid (Hbw.out.trans (hb8.mono Hbw.out.size))
      clear hb8
      go_wp2_with fail
      go_ret
      exact ⟨by first | rfl | decide | simp, Hb8.out⟩
    · by_cases h5 : nw = 0
      · subst h5
        have HLen : Hid (low = [] ∨ low.length = N) := Lib.hid (Or.inl (List.eq_nil_of_length_eq_zero hll))
        go_enter Try.func7, Try.ntmps7
        go_wp2_with fail
        refine (greatL_any false N Aw 0 cw Al nl cl w HG.out).mono ?_; rintro e w1 ⟨rfl, rfl⟩
        go_wp2_with fail
        refine (holds_any Al nl cl xs Aa N ca asg w Hx.out Ha.out).mono ?_
        rintro e w1 ⟨rfl, hb1⟩
        obtain ⟨q1, hq1⟩ : ∃ q, (holdsAll asg xs).1 = q := ⟨_, rfl⟩
        obtain ⟨q2, hq2⟩ : ∃ q, (holdsAll asg xs).2 = q := ⟨_, rfl⟩
        rw [hq1, hq2]
        have Hq1 := Lib.hid hq1
        have Hq2 := Lib.hid hq2
        have Hlw1 := Lib.hid ((Hlw.out.below hb1).more hb1.size)
        have Hx1 := Lib.hid ((Hx.out.below hb1).more hb1.size)
        have Ha1 := Lib.hid ((Ha.out.below hb1).more hb1.size)
        have Hbw := Lib.hid hb1
        clear hq1 hq2 hb1
        by_cases hn1 : q1 ≥ 0
        · have f1 : decide (q1 ≥ 0) = true := by simp; omega
          go_wp2_with fail
          refine (worksL_any _).mono ?_
          rintro e w8 ⟨rfl, hb8⟩
          have Hb8 := Lib.hid (Hbw.out.trans (hb8.mono Hbw.out.size))
          clear hb8
          go_wp2_with fail
          go_ret
          exact ⟨by first | rfl | decide | simp, Hb8.out⟩
        · have f1 : decide (q1 ≥ 0) = false := by simp; omega
          have Hn1 : Hid (q1 < 0) := Lib.hid (by omega)
          clear hn1
          by_cases hn2 : q2 = 0
          · subst hn2
            go_wp2_with fail
            go_loopg [50] N (fun gh i wr => ∃ k, k ≤ N ∧ gh = N - k ∧ i = .int .i64 (k : Nat) ∧ wr = w1 ∧ (∀ (j : Nat) (h : j < asg.length), j < k → 1 ≤ asg[j] ∧ asg[j] ≤ 3) ∧ (∀ (j : Nat) (h : j < low.length) (h2 : j < asg.length), j < k → 1 ≤ low[j] ∧ low[j] ≤ asg[j]))
            case atStart => exact ⟨0, Nat.zero_le _, rfl, rfl, rfl, fun j _ h => absurd h (by omega), fun j _ _ h => absurd h (by omega)⟩
            case round =>
              obtain ⟨k, hk, rfl, rfl, hwr, hr1, hr2⟩ := hrel
              rw [hwr]
              clear hwr
              have Hr1 := Lib.hid hr1
              have Hr2 := Lib.hid hr2
              clear hr1 hr2
              by_cases hkN : k < N
              · have k1 : k < asg.length := by have := Hal.out; omega
                obtain ⟨b, o, q, hb, hc⟩ := Ha1.out.at_ (by omega)
                subst q
                have e0 := hc k k1
                obtain ⟨z, hz⟩ : ∃ z, asg[k] = z := ⟨_, rfl⟩
                rw [hz] at e0
                have Hz := Lib.hid hz
                have i1 : (0 : Int) ≤ (k : Int) := by omega
                have i2 : (k : Int) < N := by omega
                clear hz
                by_cases hz1 : z < 1
                · have g1 : decide (z < 1) = true := by simp; omega
                  clear hc
                  go_wp2_with fail
                  refine (worksL_any _).mono ?_
                  rintro e w8 ⟨rfl, hb8⟩
                  have Hb8 := Lib.hid (Hbw.out.trans (hb8.mono Hbw.out.size))
                  clear hb8
                  go_wp2_with fail
                  go_ret
                  exact ⟨by first | rfl | decide | simp, Hb8.out⟩
                · have g1 : decide (z < 1) = false := by simp; omega
                  by_cases hz2 : z > 3
                  · have g2 : decide (z > 3) = true := by simp; omega
                    clear hc
                    go_wp2_with fail
                    refine (worksL_any _).mono ?_
                    rintro e w8 ⟨rfl, hb8⟩
                    have Hb8 := Lib.hid (Hbw.out.trans (hb8.mono Hbw.out.size))
                    clear hb8
                    go_wp2_with fail
                    go_ret
                    exact ⟨by first | rfl | decide | simp, Hb8.out⟩
                  · have g2 : decide (z > 3) = false := by simp; omega
                    have Hz12 : Hid (1 ≤ z ∧ z ≤ 3) := Lib.hid (by omega)
                    clear hz1 hz2 hc
                    go_wp2_with fail
                    go_roundg (N - (k + 1))
                    case measure => omega
                    case rel =>
                      refine ⟨k + 1, by omega, rfl, by simp, rfl, fun j h hj => ?_, fun j h h2 hj => absurd h (by omega)⟩
                      rcases Nat.lt_or_ge j k with h' | h'
                      · exact Hr1.out j h h'
                      · have : j = k := by omega
                        subst this
                        rw [Hz.out]; exact Hz12.out
              · skip
                obtain ⟨hok, hsol⟩ := below_ok (N := N) (low := low) Hal.out HLen.out (by rw [Hq1.out]; exact Hn1.out) (fun i h => Hr1.out i h (by have := Hal.out; omega)) (fun i h h2 => Hr2.out i h h2 (by have := Hal.out; omega))
                have Hok := Lib.hid hok
                have Hsol := Lib.hid hsol
                have hasg3 : ∀ v, v < N → asg.getD v 0 ≤ 3 := fun v hv => by
                  have hv2 : v < asg.length := by have := Hal.out; omega
                  rw [List.getD_eq_getElem?_getD, List.getElem?_eq_getElem hv2]
                  exact (Hr1.out v hv2 (by omega)).2
                have Hasg3 := Lib.hid hasg3
                clear hok hsol hasg3
                go_wp2_with fail
                refine (solve_any (N : Int) _ 0 cw low Al nl cl xs w1 Hlw1.out Hx1.out).mono ?_
                rintro e w2 ⟨A, m, c, A2, m2, c2, a, core, er, rfl, hra, hrc, hS, hb2⟩
                obtain ⟨rfl, _, hL⟩ := hS.solv (by omega) (by omega) Hok.out Hsol.out
                have hal : a.length = N := by rw [hL.sol.len, low0_len Hok.out]
                have hm : m = N := by have := hra.len; omega
                subst hm
                have hrg := hL.rng Hok.out Hsol.out Hasg3.out
                have Hhold := Lib.hid (hL.holds Hok.out hrg)
                have Hle : Hid (∀ (v : Nat) (h : v < a.length) (h2 : v < asg.length), a[v] ≤ asg[v]) := Lib.hid fun v h h2 => by
                  have := hL.least asg Hsol.out v (by rw [low0_len Hok.out]; omega)
                  rw [List.getD_eq_getElem?_getD, List.getD_eq_getElem?_getD, List.getElem?_eq_getElem h, List.getElem?_eq_getElem h2] at this
                  exact this
                have Hge : Hid (low ≠ [] → ∀ (v : Nat) (h : v < a.length) (h2 : v < low.length), low[v] ≤ a[v]) := Lib.hid fun hne v h h2 => by
                  have := hL.sol.low v (by rw [low0_len Hok.out]; omega)
                  have e : low0 (m : Int) low = low := by unfold low0; rw [if_neg hne]
                  rw [e, List.getD_eq_getElem?_getD, List.getD_eq_getElem?_getD, List.getElem?_eq_getElem h, List.getElem?_eq_getElem h2] at this
                  exact this
                have Hal2 := Lib.hid hal
                have Hra := Lib.hid hra
                have Hbw2 := Lib.hid (Hbw.out.trans (hb2.mono Hbw.out.size))
                have Hlw2 := Lib.hid ((Hlw1.out.below hb2).more hb2.size)
                have Hx2 := Lib.hid ((Hx1.out.below hb2).more hb2.size)
                have Ha2 := Lib.hid ((Ha1.out.below hb2).more hb2.size)
                clear hra hrc hS hb2 hL hal hrg
                clear Hbw
                have Hbw := Hbw2
                clear Hbw2
                go_wp2_with fail
                go_loopg [103] m (fun gh i wr => ∃ k, k ≤ m ∧ gh = m - k ∧ i = .int .i64 (k : Nat) ∧ wr = w2)
                case atStart => exact ⟨0, Nat.zero_le _, rfl, rfl, rfl⟩
                case round =>
                  obtain ⟨k, hk, rfl, rfl, hwr⟩ := hrel
                  rw [hwr]
                  clear hwr
                  by_cases hkN : k < m
                  · have k1 : k < asg.length := by have := Hal.out; omega
                    have k2 : k < a.length := by have := Hal2.out; omega
                    obtain ⟨b, o, q, hb, hc⟩ := Ha2.out.at_ (by omega)
                    subst q
                    have e0 := hc k k1
                    obtain ⟨b', o', q, hb', hc'⟩ := Hra.out.at_ (by omega)
                    subst q
                    have e1 := hc' k k2
                    have i1 : (0 : Int) ≤ (k : Int) := by omega
                    have i2 : (k : Int) < m := by omega
                    have hle := Hle.out k k2 k1
                    have Hge2 : Hid (low ≠ [] → ∀ h2 : k < low.length, low[k] ≤ a[k]) := Lib.hid fun hne h2 => Hge.out hne k k2 h2
                    have f9 : decide (a[k] > asg[k]) = false := by simp; omega
                    clear hc hc' hle
                    go_wp2_with fail
                    go_roundg (m - (k + 1))
                    case measure => omega
                    case rel => exact ⟨k + 1, by omega, rfl, by simp, rfl⟩
                  · skip
                    go_wp2_with fail
                    refine (holds_any Al nl cl xs A m c a w2 Hx2.out Hra.out).mono ?_
                    rintro e w3 ⟨rfl, hb3⟩
                    rw [Hhold.out]
                    have hbw3 := Hbw.out.trans (hb3.mono Hbw.out.size)
                    clear Hbw hb3
                    have Hbw := Lib.hid hbw3
                    clear hbw3
                    go_wp2_with fail
                    refine (worksL_any _).mono ?_
                    rintro e w8 ⟨rfl, hb8⟩
                    have Hb8 := Lib.hid (Hbw.out.trans (hb8.mono Hbw.out.size))
                    clear hb8
                    go_wp2_with fail
                    go_ret
                    exact ⟨by first | rfl | decide | simp, Hb8.out⟩
          · skip
            have f2 : (q2 != 0) = true := by simp [hn2]
            clear hn2
            go_wp2_with fail
            refine (worksL_any _).mono ?_
            rintro e w8 ⟨rfl, hb8⟩
            have Hb8 := Lib.hid (Hbw.out.trans (hb8.mono Hbw.out.size))
            clear hb8
            go_wp2_with fail
            go_ret
            exact ⟨by first | rfl | decide | simp, Hb8.out⟩
      · have hnw : N = nw := by omega
        subst hnw
        have HLen : Hid (low = [] ∨ low.length = N) := Lib.hid (Or.inr hll)
        have d4 : decide ((N : Int) > 0) = true := by simp; omega
        have d4' : 0 < N := by omega
        have d5 : ((N : Int) != (N : Int)) = false := by simp
        have Hne : Hid (low ≠ []) := Lib.hid fun e => by rw [e] at hll; simp at hll; omega
        have Hll := Lib.hid hll
        clear h4 h5 hll
        obtain ⟨bw, ow, q, _, _⟩ := Hlw.out.at_ d4'
        subst q
        go_enter Try.func7, Try.ntmps7
        go_wp2_with fail
        refine (greatL_any false N _ N cw Al nl cl w HG.out).mono ?_; rintro e w1 ⟨rfl, rfl⟩
        go_wp2_with fail
        refine (holds_any Al nl cl xs Aa N ca asg w Hx.out Ha.out).mono ?_
        rintro e w1 ⟨rfl, hb1⟩
        obtain ⟨q1, hq1⟩ : ∃ q, (holdsAll asg xs).1 = q := ⟨_, rfl⟩
        obtain ⟨q2, hq2⟩ : ∃ q, (holdsAll asg xs).2 = q := ⟨_, rfl⟩
        rw [hq1, hq2]
        have Hq1 := Lib.hid hq1
        have Hq2 := Lib.hid hq2
        have Hlw1 := Lib.hid ((Hlw.out.below hb1).more hb1.size)
        have Hx1 := Lib.hid ((Hx.out.below hb1).more hb1.size)
        have Ha1 := Lib.hid ((Ha.out.below hb1).more hb1.size)
        have Hbw := Lib.hid hb1
        clear hq1 hq2 hb1
        by_cases hn1 : q1 ≥ 0
        · have f1 : decide (q1 ≥ 0) = true := by simp; omega
          go_wp2_with fail
          refine (worksL_any _).mono ?_
          rintro e w8 ⟨rfl, hb8⟩
          have Hb8 := Lib.hid (Hbw.out.trans (hb8.mono Hbw.out.size))
          clear hb8
          go_wp2_with fail
          go_ret
          exact ⟨by first | rfl | decide | simp, Hb8.out⟩
        · have f1 : decide (q1 ≥ 0) = false := by simp; omega
          have Hn1 : Hid (q1 < 0) := Lib.hid (by omega)
          clear hn1
          by_cases hn2 : q2 = 0
          · subst hn2
            go_wp2_with fail
            go_loopg [50] N (fun gh i wr => ∃ k, k ≤ N ∧ gh = N - k ∧ i = .int .i64 (k : Nat) ∧ wr = w1 ∧ (∀ (j : Nat) (h : j < asg.length), j < k → 1 ≤ asg[j] ∧ asg[j] ≤ 3) ∧ (∀ (j : Nat) (h : j < low.length) (h2 : j < asg.length), j < k → 1 ≤ low[j] ∧ low[j] ≤ asg[j]))
            case atStart => exact ⟨0, Nat.zero_le _, rfl, rfl, rfl, fun j _ h => absurd h (by omega), fun j _ _ h => absurd h (by omega)⟩
            case round =>
              obtain ⟨k, hk, rfl, rfl, hwr, hr1, hr2⟩ := hrel
              rw [hwr]
              clear hwr
              have Hr1 := Lib.hid hr1
              have Hr2 := Lib.hid hr2
              clear hr1 hr2
              by_cases hkN : k < N
              · have k1 : k < asg.length := by have := Hal.out; omega
                obtain ⟨b, o, q, hb, hc⟩ := Ha1.out.at_ (by omega)
                subst q
                have e0 := hc k k1
                obtain ⟨z, hz⟩ : ∃ z, asg[k] = z := ⟨_, rfl⟩
                rw [hz] at e0
                have Hz := Lib.hid hz
                have i1 : (0 : Int) ≤ (k : Int) := by omega
                have i2 : (k : Int) < N := by omega
                clear hz
                by_cases hz1 : z < 1
                · have g1 : decide (z < 1) = true := by simp; omega
                  clear hc
                  go_wp2_with fail
                  refine (worksL_any _).mono ?_
                  rintro e w8 ⟨rfl, hb8⟩
                  have Hb8 := Lib.hid (Hbw.out.trans (hb8.mono Hbw.out.size))
                  clear hb8
                  go_wp2_with fail
                  go_ret
                  exact ⟨by first | rfl | decide | simp, Hb8.out⟩
                · have g1 : decide (z < 1) = false := by simp; omega
                  by_cases hz2 : z > 3
                  · have g2 : decide (z > 3) = true := by simp; omega
                    clear hc
                    go_wp2_with fail
                    refine (worksL_any _).mono ?_
                    rintro e w8 ⟨rfl, hb8⟩
                    have Hb8 := Lib.hid (Hbw.out.trans (hb8.mono Hbw.out.size))
                    clear hb8
                    go_wp2_with fail
                    go_ret
                    exact ⟨by first | rfl | decide | simp, Hb8.out⟩
                  · have g2 : decide (z > 3) = false := by simp; omega
                    have Hz12 : Hid (1 ≤ z ∧ z ≤ 3) := Lib.hid (by omega)
                    clear hz1 hz2 hc
                    have k2 : k < low.length := by have := Hll.out; omega
                    obtain ⟨b', o', q, hb', hc'⟩ := Hlw1.out.at_ (by omega)
                    injection q with q
                    injection q with q1 q2 q3
                    subst q1
                    subst q2
                    have e5 := hc' k k2
                    obtain ⟨y, hy⟩ : ∃ y, low[k] = y := ⟨_, rfl⟩
                    rw [hy] at e5
                    have Hy := Lib.hid hy
                    clear hy hc'
                    by_cases hy1 : y < 1
                    · have g3 : decide (y < 1) = true := by simp; omega
                      clear hy1
                      go_wp2_with fail
                      refine (worksL_any _).mono ?_
                      rintro e w8 ⟨rfl, hb8⟩
                      have Hb8 := Lib.hid (Hbw.out.trans (hb8.mono Hbw.out.size))
                      clear hb8
                      go_wp2_with fail
                      go_ret
                      exact ⟨by first | rfl | decide | simp, Hb8.out⟩
                    · have g3 : decide (y < 1) = false := by simp; omega
                      by_cases hy2 : y > z
                      · have g4 : decide (y > z) = true := by simp; omega
                        clear hy1 hy2
                        go_wp2_with fail
                        refine (worksL_any _).mono ?_
                        rintro e w8 ⟨rfl, hb8⟩
                        have Hb8 := Lib.hid (Hbw.out.trans (hb8.mono Hbw.out.size))
                        clear hb8
                        go_wp2_with fail
                        go_ret
                        exact ⟨by first | rfl | decide | simp, Hb8.out⟩
                      · have g4 : decide (y > z) = false := by simp; omega
                        have Hy12 : Hid (1 ≤ y ∧ y ≤ z) := Lib.hid (by omega)
                        clear hy1 hy2
                        go_wp2_with fail
                        go_roundg (N - (k + 1))
                        case measure => omega
                        case rel =>
                          refine ⟨k + 1, by omega, rfl, by simp, rfl, fun j h hj => ?_, fun j h h2 hj => ?_⟩
                          · rcases Nat.lt_or_ge j k with h' | h'
                            · exact Hr1.out j h h'
                            · have : j = k := by omega
                              subst this
                              rw [Hz.out]; exact Hz12.out
                          · rcases Nat.lt_or_ge j k with h' | h'
                            · exact Hr2.out j h h2 h'
                            · have : j = k := by omega
                              subst this
                              rw [Hz.out, Hy.out]; exact Hy12.out
              · skip
                obtain ⟨hok, hsol⟩ := below_ok (N := N) (low := low) Hal.out HLen.out (by rw [Hq1.out]; exact Hn1.out) (fun i h => Hr1.out i h (by have := Hal.out; omega)) (fun i h h2 => Hr2.out i h h2 (by have := Hal.out; omega))
                have Hok := Lib.hid hok
                have Hsol := Lib.hid hsol
                have hasg3 : ∀ v, v < N → asg.getD v 0 ≤ 3 := fun v hv => by
                  have hv2 : v < asg.length := by have := Hal.out; omega
                  rw [List.getD_eq_getElem?_getD, List.getElem?_eq_getElem hv2]
                  exact (Hr1.out v hv2 (by omega)).2
                have Hasg3 := Lib.hid hasg3
                clear hok hsol hasg3
                go_wp2_with fail
                refine (solve_any (N : Int) _ N cw low Al nl cl xs w1 Hlw1.out Hx1.out).mono ?_
                rintro e w2 ⟨A, m, c, A2, m2, c2, a, core, er, rfl, hra, hrc, hS, hb2⟩
                obtain ⟨rfl, _, hL⟩ := hS.solv (by omega) (by omega) Hok.out Hsol.out
                have hal : a.length = N := by rw [hL.sol.len, low0_len Hok.out]
                have hm : m = N := by have := hra.len; omega
                subst hm
                have hrg := hL.rng Hok.out Hsol.out Hasg3.out
                have Hhold := Lib.hid (hL.holds Hok.out hrg)
                have Hle : Hid (∀ (v : Nat) (h : v < a.length) (h2 : v < asg.length), a[v] ≤ asg[v]) := Lib.hid fun v h h2 => by
                  have := hL.least asg Hsol.out v (by rw [low0_len Hok.out]; omega)
                  rw [List.getD_eq_getElem?_getD, List.getD_eq_getElem?_getD, List.getElem?_eq_getElem h, List.getElem?_eq_getElem h2] at this
                  exact this
                have Hge : Hid (low ≠ [] → ∀ (v : Nat) (h : v < a.length) (h2 : v < low.length), low[v] ≤ a[v]) := Lib.hid fun hne v h h2 => by
                  have := hL.sol.low v (by rw [low0_len Hok.out]; omega)
                  have e : low0 (m : Int) low = low := by unfold low0; rw [if_neg hne]
                  rw [e, List.getD_eq_getElem?_getD, List.getD_eq_getElem?_getD, List.getElem?_eq_getElem h, List.getElem?_eq_getElem h2] at this
                  exact this
                have Hal2 := Lib.hid hal
                have Hra := Lib.hid hra
                have Hbw2 := Lib.hid (Hbw.out.trans (hb2.mono Hbw.out.size))
                have Hlw2 := Lib.hid ((Hlw1.out.below hb2).more hb2.size)
                have Hx2 := Lib.hid ((Hx1.out.below hb2).more hb2.size)
                have Ha2 := Lib.hid ((Ha1.out.below hb2).more hb2.size)
                clear hra hrc hS hb2 hL hal hrg
                clear Hbw
                have Hbw := Hbw2
                clear Hbw2
                go_wp2_with fail
                go_loopg [103] m (fun gh i wr => ∃ k, k ≤ m ∧ gh = m - k ∧ i = .int .i64 (k : Nat) ∧ wr = w2)
                case atStart => exact ⟨0, Nat.zero_le _, rfl, rfl, rfl⟩
                case round =>
                  obtain ⟨k, hk, rfl, rfl, hwr⟩ := hrel
                  rw [hwr]
                  clear hwr
                  by_cases hkN : k < m
                  · have k1 : k < asg.length := by have := Hal.out; omega
                    have k2 : k < a.length := by have := Hal2.out; omega
                    obtain ⟨b, o, q, hb, hc⟩ := Ha2.out.at_ (by omega)
                    subst q
                    have e0 := hc k k1
                    obtain ⟨b', o', q, hb', hc'⟩ := Hra.out.at_ (by omega)
                    subst q
                    have e1 := hc' k k2
                    have i1 : (0 : Int) ≤ (k : Int) := by omega
                    have i2 : (k : Int) < m := by omega
                    have hle := Hle.out k k2 k1
                    have Hge2 : Hid (low ≠ [] → ∀ h2 : k < low.length, low[k] ≤ a[k]) := Lib.hid fun hne h2 => Hge.out hne k k2 h2
                    have f9 : decide (a[k] > asg[k]) = false := by simp; omega
                    clear hc hc' hle
                    have k3 : k < low.length := by have := Hll.out; omega
                    obtain ⟨b3, o3, q, hb3, hc3⟩ := Hlw2.out.at_ (by omega)
                    injection q with q
                    injection q with q1 q2 q3
                    subst q1
                    subst q2
                    have e5 := hc3 k k3
                    have hge3 := Hge2.out Hne.out k3
                    have f8 : decide (a[k] < low[k]) = false := by simp; omega
                    clear hc3 hge3
                    go_wp2_with fail
                    go_roundg (m - (k + 1))
                    case measure => omega
                    case rel => exact ⟨k + 1, by omega, rfl, by simp, rfl⟩
                  · skip
                    go_wp2_with fail
                    refine (holds_any Al nl cl xs A m c a w2 Hx2.out Hra.out).mono ?_
                    rintro e w3 ⟨rfl, hb3⟩
                    rw [Hhold.out]
                    have hbw3 := Hbw.out.trans (hb3.mono Hbw.out.size)
                    clear Hbw hb3
                    have Hbw := Lib.hid hbw3
                    clear hbw3
                    go_wp2_with fail
                    refine (worksL_any _).mono ?_
                    rintro e w8 ⟨rfl, hb8⟩
                    have Hb8 := Lib.hid (Hbw.out.trans (hb8.mono Hbw.out.size))
                    clear hb8
                    go_wp2_with fail
                    go_ret
                    exact ⟨by first | rfl | decide | simp, Hb8.out⟩
          · skip
            have f2 : (q2 != 0) = true := by simp [hn2]
            clear hn2
            go_wp2_with fail
            refine (worksL_any _).mono ?_
            rintro e w8 ⟨rfl, hb8⟩
            have Hb8 := Lib.hid (Hbw.out.trans (hb8.mono Hbw.out.size))
            clear hb8
            go_wp2_with fail
            go_ret
            exact ⟨by first | rfl | decide | simp, Hb8.out⟩

theorem walk_leastBelow (v0 : Value) (w : World) (h0 : MultsIn w v0) (v1 : Value) (h1 : IneqsIn w v1) (v2 : Value) (h2 : MultsIn w v2) :
    Calls Try.prog 7 #[v0, v1, v2] w fun e w' => e = .returned (.bool true) ∧ Below w.heap.size w w' := by
  obtain ⟨A, nw, c, low, rfl, ha, _⟩ := h0
  obtain ⟨A', nl, c', xs, rfl, hx, _⟩ := h1
  obtain ⟨A2, N, c2, asg, rfl, hs, _⟩ := h2
  exact walkA_leastBelow A nw c low A' nl c' xs A2 N c2 asg w ha hx hs

/-! ### the row's step -/
namespace leastBelow
set_option maxRecDepth 100000 in
theorem lifted (os : Os) (started : os.Started) (H : Type) (enc : TypeId × Value → H) :
    ReturnsInHanded {} Try.checked os 7 .any (Rows.leastBelowSpec.pre6 enc Try.prog Try.f7 Rows.leastBelowRow.domain false) (Rows.leastBelowSpec.post enc Try.prog Try.f7 false true false false) := by
  refine returnsInHanded_of_change_sized (C := Try.checked) own started (by kernel_rfl) Try.func7
    (ChangeSpec.witness6 (enc := enc) (C := Try.checked) false ⟨#[], #[.slice none 0 0, .slice none 0 0, .slice none 0 0], []⟩ 8 (by kernel_rfl) (by kernel_rfl) (by kernel_rfl) (by kernel_rfl)) ?_
  intro W base args ds gs before hval0 hW hcnd hsz0 _
  have hsz : (DataW.weightsEach Try.prog (Try.f7.params.toList ++ Rows.leastBelowSpec.plain.varTypes Try.prog) (ds ++ gs)).all (· ≤ reachBytes) = true := hsz0
  have hval : ∀ (j : Nat) t v, Try.f7.params[j]? = some t → args[j]? = some v → Value.okWide Try.prog W .any base t v := hval0
  have hW' := hW
  obtain ⟨p, q, hA0, hV, rfl, hfz, hnd⟩ := hW
  have hA : DataW.TrodAll enc Try.prog W 0 (fun _ => true) true Try.f7.params.toList args.toList ds p := hA0
  rw [Try.params7] at hA hval hsz
  obtain ⟨v0, vs0, d0, ds0, p0, q0, hargs, rfl, rfl, h0, r_0⟩ := trodAll_cons hA
  obtain ⟨v1, vs1, d1, ds1, p1, q1, rfl, rfl, rfl, h1, r_1⟩ := trodAll_cons r_0
  obtain ⟨v2, vs2, d2, ds2, p2, q2, rfl, rfl, rfl, h2, r_2⟩ := trodAll_cons r_1
  obtain ⟨rfl, rfl, rfl⟩ := trodAll_nil r_2
  obtain rfl : args = #[v0, v1, v2] := by cases args; simp_all
  obtain ⟨rfl, rfl⟩ := trodVars_none hV
  have w0 := rd_mults (hval 0 22 v0 rfl rfl) h0
  have w1 := rd_ineqs (hval 1 35 v1 rfl rfl) h1
  have w2 := rd_mults (hval 2 22 v2 rfl rfl) h2
  refine (walk_leastBelow (w := W) v0 w0 v1 w1 v2 w2).mono fun e W' ⟨he, bel⟩ => ?_
  subst he
  exact ⟨_, rfl, law_post laidOut (by kernel_rfl) rfl rfl Try.underlying4 hW' rfl rfl rfl bel⟩
theorem over : Rows.leastBelowRow.holds Try.pinned (OpenSpec.ofChange Rows.leastBelowSpec) :=
  OpenClaim.holds_of_wide 7 Try.f7 rfl rfl rfl rfl rfl rfl rfl ⟨rfl, rfl, rfl, rfl, rfl⟩ rfl rfl rfl rfl rfl (by kernel_rfl) Try.func7 (by kernel_rfl)
    (of_decide_eq_true (by kernel_rfl)) (by unfold Func.isWrapper; first | (rw [if_pos (by decide +kernel)]; kernel_rfl) | (rw [if_neg (by decide +kernel)]; exact ⟨rfl, rfl⟩))
    (fun os started H enc _ => lifted os started H enc)
/-- the statement -/
theorem proved : Rows.LeastBelowSaid := over
#print axioms proved
end leastBelow
end Go.Proofs.Ythabkpkgocafoaa
