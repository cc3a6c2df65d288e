/- Texts of this claim, laid one behind the other: RefL, RefM. -/
import Derived.Test.YthabkpkgocafoaaLeastS
import Derived.Test.YthabkpkgocafoaaEaA
/- Contracts of slices.Equal at multiplicities and of usufructref04.May. -/
namespace Go.Proofs.Ythabkpkgocafoaa
set_option linter.unusedVariables false
set_option linter.unusedSimpArgs false
open Go.RowKit

set_option maxHeartbeats 1000000 in
theorem equalM_any (A : Option Addr) (n c : Nat) (us : List Int) (A' : Option Addr) (n' c' : Nat) (us' : List Int) (w : World) (h : RdI .u8 w w.heap.size A n c us) (h' : RdI .u8 w w.heap.size A' n' c' us') :
    Calls Try.prog 17 #[.slice A n c, .slice A' n' c'] w fun e w' => e = .returned (.bool (us == us')) ∧ Below w.heap.size w w' := by
  have hl := h.len
  have hl' := h'.len
  have n63 : n ≤ 9223372036854775807 := Nat.le_trans h.2.1 h.2.2
  have n63' : n' ≤ 9223372036854775807 := Nat.le_trans h'.2.1 h'.2.2
  by_cases e : n = n'
  · subst e
    have d0 : ((n : Int) != (n : Int)) = false := by simp
    have H := Lib.hid h
    have H' := Lib.hid h'
    clear h h'
    go_enter Try.func17, Try.ntmps17
    go_wp2_with fail
    go_loopg [5, 13] n (fun gh _ i wr => ∃ k, k ≤ n ∧ gh = n - k ∧ i = .int .i64 (k : Nat) ∧ (∀ (j : Nat) (h1 : j < us.length) (h2 : j < us'.length), j < k → us[j] = us'[j]) ∧ Below w.heap.size w wr)
    case atStart => exact ⟨0, Nat.zero_le _, rfl, rfl, fun j _ _ h => absurd h (by omega), Below.refl _ _⟩
    case round =>
      obtain ⟨k, hk, rfl, rfl, hall, hbel⟩ := hrel
      have Hall := Lib.hid hall
      have Hbel := Lib.hid hbel
      clear hall
      by_cases hkn : k < n
      · have k1 : k < us.length := by omega
        have k2 : k < us'.length := by omega
        obtain ⟨b, o, rfl, hb, hc⟩ := (H.out.below hbel).at_ (by omega)
        obtain ⟨b', o', rfl, hb', hc'⟩ := (H'.out.below hbel).at_ (by omega)
        have e0 := hc k k1
        have e1 := hc' k k2
        have i1 : (0 : Int) ≤ (k : Int) := by omega
        have i2 : (k : Int) < n := by omega
        by_cases he : us[k] = us'[k]
        · have d1 : (us[k] != us'[k]) = false := by simp [he]
          have He := Lib.hid he
          clear he
          generalize us[k] = z at e0 d1
          generalize us'[k] = z' at e1 d1
          clear hc hc' hbel
          go_wp2_with fail
          go_quiet (fail)
          go_wp2_with fail
          go_roundg (n - (k + 1))
          case measure => omega
          case rel =>
            refine ⟨k + 1, by omega, rfl, by simp, fun j h1 h2 hj => ?_, below_drewN_t Hbel.out _⟩
            rcases Nat.lt_or_ge j k with h | h
            · exact Hall.out j h1 h2 h
            · have : j = k := by omega
              subst this
              exact He.out
        · have d1 : (us[k] != us'[k]) = true := by simp [he]
          have HF : Hid (false = (us == us')) := by
            show _ = _
            symm
            rw [beq_eq_false_iff_ne]
            intro hu
            subst hu
            exact he rfl
          clear he
          generalize us[k] = z at e0 d1
          generalize us'[k] = z' at e1 d1
          clear hc hc' hbel
          go_wp2_with fail
          go_quiet (fail)
          go_wp2_with fail
          go_ret
          exact ⟨ret_bool HF.out, below_drewN_t Hbel.out _⟩
      · have HF : Hid (true = (us == us')) := by
          show _ = _
          symm
          rw [beq_iff_eq]
          apply List.ext_getElem (by omega)
          intro j h1 h2
          exact Hall.out j h1 h2 (by omega)
        clear hbel
        go_wp2_with fail
        go_ret
        exact ⟨ret_bool HF.out, Hbel.out⟩
  · have d0 : ((n : Int) != (n' : Int)) = true := by simp; omega
    have HF : Hid (false = (us == us')) := by
      show _ = _
      symm
      rw [beq_eq_false_iff_ne]
      intro hu
      rw [hu] at hl
      omega
    clear h h' e
    go_enter Try.func17, Try.ntmps17
    go_wp2_with fail
    go_ret
    exact ⟨ret_bool HF.out, Below.refl _ _⟩

set_option maxHeartbeats 2000000 in
theorem refMay4_any (bb : Bool) (n : Int) (Aw : Option Addr) (nw cw : Nat) (low : List Int) (Al : Option Addr) (nl cl : Nat) (xs : List IneqD) (w : World) (hlw : RdI .u8 w w.heap.size Aw nw cw low) (hx : IneqsV w w.heap.size Al nl cl xs) (hbb : bb = true ↔ OkS n low xs) :
    Calls Try.prog 20 #[.int .i64 n, .slice Aw nw cw, .slice Al nl cl] w fun e w' => e = .returned (.bool bb) ∧ Below w.heap.size w w' := by
  have hno : ¬ OkS n low xs → false = bb := fun h => by cases bb; rfl; exact absurd (hbb.1 rfl) h
  have hyes : OkS n low xs → true = bb := fun h => (hbb.2 h).symm
  have Hno := Lib.hid hno
  have Hyes := Lib.hid hyes
  clear hno hyes hbb
  have hll := hlw.len
  have hxl := hx.len
  have nw63 : nw ≤ 9223372036854775807 := Nat.le_trans hlw.2.1 hlw.2.2
  have nl63 : nl ≤ 9223372036854775807 := Nat.le_trans hx.2.1 hx.2.2.1
  by_cases h3 : n < 0
  · have d3 : decide (n < 0) = true := by simp; omega
    have HN : Hid (false = bb) := Lib.hid (Hno.out fun h => by have := h.n0; omega)
    clear hlw hx h3
    go_enter Try.func20, Try.ntmps20
    go_wp2_with fail
    go_ret
    exact ⟨ret_bool HN.out, Below.refl _ _⟩
  · have d3 : decide (n < 0) = false := by simp; omega
    by_cases h4 : 0 < nw ∧ (nw : Int) ≠ n
    · have d4 : decide ((nw : Int) > 0) = true := by simp; omega
      have d4' : 0 < nw := by omega
      have d5 : ((nw : Int) != n) = true := by simp; omega
      have HN : Hid (false = bb) := Lib.hid (Hno.out fun h => by rcases h.len with e | e; (rw [e] at hll; simp at hll; omega); omega)
      clear hlw hx h3 h4
      go_enter Try.func20, Try.ntmps20
      go_wp2_with fail
      go_ret
      exact ⟨ret_bool HN.out, Below.refl _ _⟩
    · have HN0 : Hid (0 ≤ n) := Lib.hid (by omega)
      have HLen : Hid (low = [] ∨ (low.length : Int) = n) := Lib.hid (by
        by_cases h5 : nw = 0
        · exact Or.inl (List.eq_nil_of_length_eq_zero (by omega))
        · exact Or.inr (by omega))
      have Hlw := Lib.hid hlw
      have Hx := Lib.hid hx
      clear hlw hx
      by_cases h5 : nw = 0
      · subst h5
        clear h3 h4
        go_enter Try.func20, Try.ntmps20
        go_wp2_with fail
        go_loopg [7] 0 (fun gh i wr => ∃ k, k ≤ 0 ∧ gh = 0 - k ∧ i = .int .i64 (k : Nat) ∧ (∀ (j : Nat) (h1 : j < low.length), j < k → 1 ≤ low[j] ∧ low[j] ≤ 3) ∧ wr = w)
        case atStart => exact ⟨0, Nat.zero_le _, rfl, rfl, fun j _ h => absurd h (by omega), rfl⟩
        case round =>
          obtain ⟨k, hk, rfl, rfl, hall, hwr⟩ := hrel
          rw [hwr]
          clear hwr
          have Hall := Lib.hid hall
          clear hall
          by_cases hkn : k < 0
          · skip
            have k1 : k < low.length := by omega
            obtain ⟨b, o, q, hb, hc⟩ := Hlw.out.at_ (by omega)
            subst q
            have e0 := hc k k1
            have i1 : (0 : Int) ≤ (k : Int) := by omega
            have i2 : (k : Int) < 0 := by omega
            obtain ⟨z, hz⟩ : ∃ z, low[k] = z := ⟨_, rfl⟩
            rw [hz] at e0
            have Hz := Lib.hid hz
            clear hz hc
            by_cases hz1 : 1 ≤ z ∧ z ≤ 3
            · have f1 : decide (z < 1) = false := by simp; omega
              have f2 : decide (z > 3) = false := by simp; omega
              have Hz1 := Lib.hid hz1
              clear hz1
              go_wp2_with fail
              go_roundg (0 - (k + 1))
              case measure => omega
              case rel =>
                refine ⟨k + 1, by omega, rfl, by simp, fun j h1 hj => ?_, rfl⟩
                rcases Nat.lt_or_ge j k with h | h
                · exact Hall.out j h1 h
                · have : j = k := by omega
                  subst this
                  rw [Hz.out]; exact Hz1.out
            · have HN : Hid (false = bb) := Lib.hid (Hno.out fun h => by have := h.rng _ (List.getElem_mem k1); rw [Hz.out] at this; omega)
              by_cases hz2 : z < 1
              · have f1 : decide (z < 1) = true := by simp; omega
                clear hz1 hz2
                go_wp2_with fail
                go_ret
                exact ⟨ret_bool HN.out, Below.refl _ _⟩
              · have f1 : decide (z < 1) = false := by simp; omega
                have f2 : decide (z > 3) = true := by simp; omega
                clear hz1 hz2
                go_wp2_with fail
                go_ret
                exact ⟨ret_bool HN.out, Below.refl _ _⟩
          · have HR : Hid (∀ z ∈ low, 1 ≤ z ∧ z ≤ 3) := Lib.hid fun z hz => by
              obtain ⟨j, hj, rfl⟩ := List.getElem_of_mem hz
              exact Hall.out j hj (by omega)
            go_wp2_with fail
            go_loopg [8] nl (fun gh i wr => ∃ k, k ≤ nl ∧ gh = nl - k ∧ i = .int .i64 (k : Nat) ∧ (∀ (j : Nat) (h1 : j < xs.length), j < k → mayL xs[j] n = true) ∧ Below w.heap.size w wr)
            case atStart => exact ⟨0, Nat.zero_le _, rfl, rfl, fun j _ h => absurd h (by omega), Below.refl _ _⟩
            case round =>
              obtain ⟨k, hk, rfl, rfl, hall, hbel⟩ := hrel
              have Hall := Lib.hid hall
              have Hbel := Lib.hid hbel
              clear hall
              by_cases hkl : k < nl
              · have k1 : k < xs.length := by omega
                obtain ⟨b, o, q, hb, hc⟩ := (Hx.out.below hbel).at_ (by omega)
                subst q
                obtain ⟨e0, e1, e2, e3⟩ := hc k k1
                have i1 : (0 : Int) ≤ (k : Int) := by omega
                have i2 : (k : Int) < nl := by omega
                obtain ⟨x, hx⟩ : ∃ x, xs[k] = x := ⟨_, rfl⟩
                rw [hx] at e0 e1 e2 e3
                have Hxk := Lib.hid hx
                clear hx hc hbel
                have hN1 : mayL x n = false → false = bb := fun hm => Hno.out fun h => by have := h.may _ (List.getElem_mem k1); rw [Hxk.out, hm] at this; cases this
                have HN1 := Lib.hid hN1
                clear hN1
                have hml : mayL x n = (mayQ x.lv x.lc x.c x.r && (x.lc != 0 || decide (x.lv < n)) && decide (x.r < n)) := rfl
                cases hm : mayQ x.lv x.lc x.c x.r
                · have HN : Hid (false = bb) := Lib.hid (HN1.out (by rw [hml, hm]; rfl))
                  have Hm := Lib.hid hm
                  clear hml hm
                  go_wp2_with fail
                  refine (refMayQ_any x.lv x.lc x.c x.r wr).mono ?_
                  rintro e w1 ⟨rfl, hb1⟩
                  rw [Hm.out]
                  have hb9 := Hbel.out.trans (hb1.mono Hbel.out.size)
                  obtain ⟨_, _, q, _, hc⟩ := (Hx.out.below hb9).at_ (by omega)
                  cases q
                  obtain ⟨e0, e1, e2, e3⟩ := hc k k1
                  rw [Hxk.out] at e0 e1 e2 e3
                  clear hb1 hc
                  go_wp2_with fail
                  go_ret
                  exact ⟨ret_bool HN.out, hb9⟩
                · have Hm := Lib.hid hm
                  by_cases h0 : x.lc = 0
                  · have g0 : (x.lc == 0) = true := by simp [h0]
                    by_cases hv : x.lv < n
                    · have g1 : decide (x.lv ≥ n) = false := by simp; omega
                      by_cases hr : x.r < n
                      · have g2 : decide (x.r ≥ n) = false := by simp; omega
                        have Hy : Hid (mayL x n = true) := Lib.hid (by rw [hml, hm]; simp [hv, hr])
                        clear hml hm hv hr h0
                        go_wp2_with fail
                        refine (refMayQ_any x.lv x.lc x.c x.r wr).mono ?_
                        rintro e w1 ⟨rfl, hb1⟩
                        rw [Hm.out]
                        have hb9 := Hbel.out.trans (hb1.mono Hbel.out.size)
                        obtain ⟨_, _, q, _, hc⟩ := (Hx.out.below hb9).at_ (by omega)
                        cases q
                        obtain ⟨e0, e1, e2, e3⟩ := hc k k1
                        rw [Hxk.out] at e0 e1 e2 e3
                        clear hb1 hc
                        go_wp2_with fail
                        go_roundg (nl - (k + 1))
                        case measure => omega
                        case rel =>
                          refine ⟨k + 1, by omega, rfl, by simp, fun j h1 hj => ?_, hb9⟩
                          rcases Nat.lt_or_ge j k with h | h
                          · exact Hall.out j h1 h
                          · have : j = k := by omega
                            subst this
                            rw [Hxk.out]; exact Hy.out
                      · have g2 : decide (x.r ≥ n) = true := by simp; omega
                        have HN : Hid (false = bb) := Lib.hid (HN1.out (by rw [hml, hm]; simp [hr]))
                        clear hml hm hv hr h0
                        go_wp2_with fail
                        refine (refMayQ_any x.lv x.lc x.c x.r wr).mono ?_
                        rintro e w1 ⟨rfl, hb1⟩
                        rw [Hm.out]
                        have hb9 := Hbel.out.trans (hb1.mono Hbel.out.size)
                        obtain ⟨_, _, q, _, hc⟩ := (Hx.out.below hb9).at_ (by omega)
                        cases q
                        obtain ⟨e0, e1, e2, e3⟩ := hc k k1
                        rw [Hxk.out] at e0 e1 e2 e3
                        clear hb1 hc
                        go_wp2_with fail
                        go_ret
                        exact ⟨ret_bool HN.out, hb9⟩
                    · have g1 : decide (x.lv ≥ n) = true := by simp; omega
                      have HN : Hid (false = bb) := Lib.hid (HN1.out (by rw [hml, hm]; simp [hv, h0]))
                      clear hml hm hv h0
                      go_wp2_with fail
                      refine (refMayQ_any x.lv x.lc x.c x.r wr).mono ?_
                      rintro e w1 ⟨rfl, hb1⟩
                      rw [Hm.out]
                      have hb9 := Hbel.out.trans (hb1.mono Hbel.out.size)
                      obtain ⟨_, _, q, _, hc⟩ := (Hx.out.below hb9).at_ (by omega)
                      cases q
                      obtain ⟨e0, e1, e2, e3⟩ := hc k k1
                      rw [Hxk.out] at e0 e1 e2 e3
                      clear hb1 hc
                      go_wp2_with fail
                      go_ret
                      exact ⟨ret_bool HN.out, hb9⟩
                  · have g0 : (x.lc == 0) = false := by simp [h0]
                    by_cases hr : x.r < n
                    · have g2 : decide (x.r ≥ n) = false := by simp; omega
                      have Hy : Hid (mayL x n = true) := Lib.hid (by rw [hml, hm]; simp [h0, hr])
                      clear hml hm hr h0
                      go_wp2_with fail
                      refine (refMayQ_any x.lv x.lc x.c x.r wr).mono ?_
                      rintro e w1 ⟨rfl, hb1⟩
                      rw [Hm.out]
                      have hb9 := Hbel.out.trans (hb1.mono Hbel.out.size)
                      obtain ⟨_, _, q, _, hc⟩ := (Hx.out.below hb9).at_ (by omega)
                      cases q
                      obtain ⟨e0, e1, e2, e3⟩ := hc k k1
                      rw [Hxk.out] at e0 e1 e2 e3
                      clear hb1 hc
                      go_wp2_with fail
                      go_roundg (nl - (k + 1))
                      case measure => omega
                      case rel =>
                        refine ⟨k + 1, by omega, rfl, by simp, fun j h1 hj => ?_, hb9⟩
                        rcases Nat.lt_or_ge j k with h | h
                        · exact Hall.out j h1 h
                        · have : j = k := by omega
                          subst this
                          rw [Hxk.out]; exact Hy.out
                    · have g2 : decide (x.r ≥ n) = true := by simp; omega
                      have HN : Hid (false = bb) := Lib.hid (HN1.out (by rw [hml, hm]; simp [hr]))
                      clear hml hm hr h0
                      go_wp2_with fail
                      refine (refMayQ_any x.lv x.lc x.c x.r wr).mono ?_
                      rintro e w1 ⟨rfl, hb1⟩
                      rw [Hm.out]
                      have hb9 := Hbel.out.trans (hb1.mono Hbel.out.size)
                      obtain ⟨_, _, q, _, hc⟩ := (Hx.out.below hb9).at_ (by omega)
                      cases q
                      obtain ⟨e0, e1, e2, e3⟩ := hc k k1
                      rw [Hxk.out] at e0 e1 e2 e3
                      clear hb1 hc
                      go_wp2_with fail
                      go_ret
                      exact ⟨ret_bool HN.out, hb9⟩
              · have HY : Hid (true = bb) := Lib.hid (Hyes.out ⟨HN0.out, HLen.out, fun x hx => by
                  obtain ⟨j, hj, rfl⟩ := List.getElem_of_mem hx
                  exact Hall.out j hj (by omega), HR.out⟩)
                clear hbel
                go_wp2_with fail
                go_ret
                exact ⟨ret_bool HY.out, Hbel.out⟩
      · have d4 : decide ((nw : Int) > 0) = true := by simp; omega
        have d4' : 0 < nw := by omega
        have d5 : ((nw : Int) != n) = false := by simp; omega
        clear h5
        clear h3 h4
        go_enter Try.func20, Try.ntmps20
        go_wp2_with fail
        go_loopg [7] nw (fun gh i wr => ∃ k, k ≤ nw ∧ gh = nw - k ∧ i = .int .i64 (k : Nat) ∧ (∀ (j : Nat) (h1 : j < low.length), j < k → 1 ≤ low[j] ∧ low[j] ≤ 3) ∧ wr = w)
        case atStart => exact ⟨0, Nat.zero_le _, rfl, rfl, fun j _ h => absurd h (by omega), rfl⟩
        case round =>
          obtain ⟨k, hk, rfl, rfl, hall, hwr⟩ := hrel
          rw [hwr]
          clear hwr
          have Hall := Lib.hid hall
          clear hall
          by_cases hkn : k < nw
          · skip
            have k1 : k < low.length := by omega
            obtain ⟨b, o, q, hb, hc⟩ := Hlw.out.at_ (by omega)
            subst q
            have e0 := hc k k1
            have i1 : (0 : Int) ≤ (k : Int) := by omega
            have i2 : (k : Int) < nw := by omega
            obtain ⟨z, hz⟩ : ∃ z, low[k] = z := ⟨_, rfl⟩
            rw [hz] at e0
            have Hz := Lib.hid hz
            clear hz hc
            by_cases hz1 : 1 ≤ z ∧ z ≤ 3
            · have f1 : decide (z < 1) = false := by simp; omega
              have f2 : decide (z > 3) = false := by simp; omega
              have Hz1 := Lib.hid hz1
              clear hz1
              go_wp2_with fail
              go_roundg (nw - (k + 1))
              case measure => omega
              case rel =>
                refine ⟨k + 1, by omega, rfl, by simp, fun j h1 hj => ?_, rfl⟩
                rcases Nat.lt_or_ge j k with h | h
                · exact Hall.out j h1 h
                · have : j = k := by omega
                  subst this
                  rw [Hz.out]; exact Hz1.out
            · have HN : Hid (false = bb) := Lib.hid (Hno.out fun h => by have := h.rng _ (List.getElem_mem k1); rw [Hz.out] at this; omega)
              by_cases hz2 : z < 1
              · have f1 : decide (z < 1) = true := by simp; omega
                clear hz1 hz2
                go_wp2_with fail
                go_ret
                exact ⟨ret_bool HN.out, Below.refl _ _⟩
              · have f1 : decide (z < 1) = false := by simp; omega
                have f2 : decide (z > 3) = true := by simp; omega
                clear hz1 hz2
                go_wp2_with fail
                go_ret
                exact ⟨ret_bool HN.out, Below.refl _ _⟩
          · have HR : Hid (∀ z ∈ low, 1 ≤ z ∧ z ≤ 3) := Lib.hid fun z hz => by
              obtain ⟨j, hj, rfl⟩ := List.getElem_of_mem hz
              exact Hall.out j hj (by omega)
            go_wp2_with fail
            go_loopg [8] nl (fun gh i wr => ∃ k, k ≤ nl ∧ gh = nl - k ∧ i = .int .i64 (k : Nat) ∧ (∀ (j : Nat) (h1 : j < xs.length), j < k → mayL xs[j] n = true) ∧ Below w.heap.size w wr)
            case atStart => exact ⟨0, Nat.zero_le _, rfl, rfl, fun j _ h => absurd h (by omega), Below.refl _ _⟩
            case round =>
              obtain ⟨k, hk, rfl, rfl, hall, hbel⟩ := hrel
              have Hall := Lib.hid hall
              have Hbel := Lib.hid hbel
              clear hall
              by_cases hkl : k < nl
              · have k1 : k < xs.length := by omega
                obtain ⟨b, o, q, hb, hc⟩ := (Hx.out.below hbel).at_ (by omega)
                subst q
                obtain ⟨e0, e1, e2, e3⟩ := hc k k1
                have i1 : (0 : Int) ≤ (k : Int) := by omega
                have i2 : (k : Int) < nl := by omega
                obtain ⟨x, hx⟩ : ∃ x, xs[k] = x := ⟨_, rfl⟩
                rw [hx] at e0 e1 e2 e3
                have Hxk := Lib.hid hx
                clear hx hc hbel
                have hN1 : mayL x n = false → false = bb := fun hm => Hno.out fun h => by have := h.may _ (List.getElem_mem k1); rw [Hxk.out, hm] at this; cases this
                have HN1 := Lib.hid hN1
                clear hN1
                have hml : mayL x n = (mayQ x.lv x.lc x.c x.r && (x.lc != 0 || decide (x.lv < n)) && decide (x.r < n)) := rfl
                cases hm : mayQ x.lv x.lc x.c x.r
                · have HN : Hid (false = bb) := Lib.hid (HN1.out (by rw [hml, hm]; rfl))
                  have Hm := Lib.hid hm
                  clear hml hm
                  go_wp2_with fail
                  refine (refMayQ_any x.lv x.lc x.c x.r wr).mono ?_
                  rintro e w1 ⟨rfl, hb1⟩
                  rw [Hm.out]
                  have hb9 := Hbel.out.trans (hb1.mono Hbel.out.size)
                  obtain ⟨_, _, q, _, hc⟩ := (Hx.out.below hb9).at_ (by omega)
                  cases q
                  obtain ⟨e0, e1, e2, e3⟩ := hc k k1
                  rw [Hxk.out] at e0 e1 e2 e3
                  clear hb1 hc
                  go_wp2_with fail
                  go_ret
                  exact ⟨ret_bool HN.out, hb9⟩
                · have Hm := Lib.hid hm
                  by_cases h0 : x.lc = 0
                  · have g0 : (x.lc == 0) = true := by simp [h0]
                    by_cases hv : x.lv < n
                    · have g1 : decide (x.lv ≥ n) = false := by simp; omega
                      by_cases hr : x.r < n
                      · have g2 : decide (x.r ≥ n) = false := by simp; omega
                        have Hy : Hid (mayL x n = true) := Lib.hid (by rw [hml, hm]; simp [hv, hr])
                        clear hml hm hv hr h0
                        go_wp2_with fail
                        refine (refMayQ_any x.lv x.lc x.c x.r wr).mono ?_
                        rintro e w1 ⟨rfl, hb1⟩
                        rw [Hm.out]
                        have hb9 := Hbel.out.trans (hb1.mono Hbel.out.size)
                        obtain ⟨_, _, q, _, hc⟩ := (Hx.out.below hb9).at_ (by omega)
                        cases q
                        obtain ⟨e0, e1, e2, e3⟩ := hc k k1
                        rw [Hxk.out] at e0 e1 e2 e3
                        clear hb1 hc
                        go_wp2_with fail
                        go_roundg (nl - (k + 1))
                        case measure => omega
                        case rel =>
                          refine ⟨k + 1, by omega, rfl, by simp, fun j h1 hj => ?_, hb9⟩
                          rcases Nat.lt_or_ge j k with h | h
                          · exact Hall.out j h1 h
                          · have : j = k := by omega
                            subst this
                            rw [Hxk.out]; exact Hy.out
                      · have g2 : decide (x.r ≥ n) = true := by simp; omega
                        have HN : Hid (false = bb) := Lib.hid (HN1.out (by rw [hml, hm]; simp [hr]))
                        clear hml hm hv hr h0
                        go_wp2_with fail
                        refine (refMayQ_any x.lv x.lc x.c x.r wr).mono ?_
                        rintro e w1 ⟨rfl, hb1⟩
                        rw [Hm.out]
                        have hb9 := Hbel.out.trans (hb1.mono Hbel.out.size)
                        obtain ⟨_, _, q, _, hc⟩ := (Hx.out.below hb9).at_ (by omega)
                        cases q
                        obtain ⟨e0, e1, e2, e3⟩ := hc k k1
                        rw [Hxk.out] at e0 e1 e2 e3
                        clear hb1 hc
                        go_wp2_with fail
                        go_ret
                        exact ⟨ret_bool HN.out, hb9⟩
                    · have g1 : decide (x.lv ≥ n) = true := by simp; omega
                      have HN : Hid (false = bb) := Lib.hid (HN1.out (by rw [hml, hm]; simp [hv, h0]))
                      clear hml hm hv h0
                      go_wp2_with fail
                      refine (refMayQ_any x.lv x.lc x.c x.r wr).mono ?_
                      rintro e w1 ⟨rfl, hb1⟩
                      rw [Hm.out]
                      have hb9 := Hbel.out.trans (hb1.mono Hbel.out.size)
                      obtain ⟨_, _, q, _, hc⟩ := (Hx.out.below hb9).at_ (by omega)
                      cases q
                      obtain ⟨e0, e1, e2, e3⟩ := hc k k1
                      rw [Hxk.out] at e0 e1 e2 e3
                      clear hb1 hc
                      go_wp2_with fail
                      go_ret
                      exact ⟨ret_bool HN.out, hb9⟩
                  · have g0 : (x.lc == 0) = false := by simp [h0]
                    by_cases hr : x.r < n
                    · have g2 : decide (x.r ≥ n) = false := by simp; omega
                      have Hy : Hid (mayL x n = true) := Lib.hid (by rw [hml, hm]; simp [h0, hr])
                      clear hml hm hr h0
                      go_wp2_with fail
                      refine (refMayQ_any x.lv x.lc x.c x.r wr).mono ?_
                      rintro e w1 ⟨rfl, hb1⟩
                      rw [Hm.out]
                      have hb9 := Hbel.out.trans (hb1.mono Hbel.out.size)
                      obtain ⟨_, _, q, _, hc⟩ := (Hx.out.below hb9).at_ (by omega)
                      cases q
                      obtain ⟨e0, e1, e2, e3⟩ := hc k k1
                      rw [Hxk.out] at e0 e1 e2 e3
                      clear hb1 hc
                      go_wp2_with fail
                      go_roundg (nl - (k + 1))
                      case measure => omega
                      case rel =>
                        refine ⟨k + 1, by omega, rfl, by simp, fun j h1 hj => ?_, hb9⟩
                        rcases Nat.lt_or_ge j k with h | h
                        · exact Hall.out j h1 h
                        · have : j = k := by omega
                          subst this
                          rw [Hxk.out]; exact Hy.out
                    · have g2 : decide (x.r ≥ n) = true := by simp; omega
                      have HN : Hid (false = bb) := Lib.hid (HN1.out (by rw [hml, hm]; simp [hr]))
                      clear hml hm hr h0
                      go_wp2_with fail
                      refine (refMayQ_any x.lv x.lc x.c x.r wr).mono ?_
                      rintro e w1 ⟨rfl, hb1⟩
                      rw [Hm.out]
                      have hb9 := Hbel.out.trans (hb1.mono Hbel.out.size)
                      obtain ⟨_, _, q, _, hc⟩ := (Hx.out.below hb9).at_ (by omega)
                      cases q
                      obtain ⟨e0, e1, e2, e3⟩ := hc k k1
                      rw [Hxk.out] at e0 e1 e2 e3
                      clear hb1 hc
                      go_wp2_with fail
                      go_ret
                      exact ⟨ret_bool HN.out, hb9⟩
              · have HY : Hid (true = bb) := Lib.hid (Hyes.out ⟨HN0.out, HLen.out, fun x hx => by
                  obtain ⟨j, hj, rfl⟩ := List.getElem_of_mem hx
                  exact Hall.out j hj (by omega), HR.out⟩)
                clear hbel
                go_wp2_with fail
                go_ret
                exact ⟨ret_bool HY.out, Hbel.out⟩

end Go.Proofs.Ythabkpkgocafoaa

/- The contract of usufructref04.Solve. -/
namespace Go.Proofs.Ythabkpkgocafoaa
set_option linter.unusedVariables false
set_option linter.unusedSimpArgs false
open Go.RowKit

theorem low0_len {n : Nat} {low : List Int} {xs : List IneqD} (h : OkS (n : Int) low xs) : (low0 (n : Int) low).length = n := by
  unfold low0
  split
  · simp
  · rename_i hne
    rcases h.len with e | e
    · exact absurd e hne
    · omega
theorem low0_rng {n : Nat} {low : List Int} {xs : List IneqD} (h : OkS (n : Int) low xs) : ∀ z ∈ low0 (n : Int) low, 1 ≤ z ∧ z ≤ 3 := by
  unfold low0
  split
  · intro z hz; rw [List.eq_of_mem_replicate hz]; omega
  · exact h.rng
theorem getD_mem {l : List Int} {v : Nat} (h : v < l.length) : l.getD v 0 ∈ l := by
  rw [List.getD_eq_getElem?_getD, List.getElem?_eq_getElem h]; exact List.getElem_mem h

/-- what One tells of an assignment within bounds -/
theorem holdsQ_iff {n : Nat} {x : IneqD} {asg : List Int} (hx : OverL n x) (hl : asg.length = n) (hr : ∀ v, v < n → 1 ≤ asg.getD v 0 ∧ asg.getD v 0 ≤ 3) : badQ asg x.lv x.lc x.r = false ∧ (holdsQ asg x.lv x.lc x.c x.r = true ↔ holdL asg x) := by
  have hok : ∀ v : Int, 0 ≤ v → v < n → okV asg v = true ∧ atK asg v = asg.getD v.toNat 0 := fun v h0 h1 => by
    have h2 := hr v.toNat (by omega)
    have h3 : okV asg v = true := by
      unfold okV oneB atV
      simp only [Bool.and_eq_true, decide_eq_true_eq]
      exact ⟨by omega, h2⟩
    refine ⟨h3, ?_⟩
    unfold atK atV
    rw [if_pos h3]
  constructor
  · unfold badQ
    by_cases h0 : x.lc = 0
    · have := hx.lv h0
      rw [(hok x.lv this.1 this.2).1]
      by_cases h1 : 0 ≤ x.r
      · rw [(hok x.r h1 hx.r).1]; simp
      · simp [h1]
    · by_cases h1 : 0 ≤ x.r
      · rw [(hok x.r h1 hx.r).1]; simp [h0]
      · simp [h0, h1]
  · unfold holdsQ holdL leftQ rightQ leftL
    rw [decide_eq_true_eq]
    by_cases h0 : x.lc = 0
    · have := hx.lv h0
      rw [if_pos h0, if_pos h0, (hok x.lv this.1 this.2).2]
      by_cases h1 : 0 ≤ x.r
      · rw [if_pos h1, if_pos h1, (hok x.r h1 hx.r).2]
      · rw [if_neg h1, if_neg h1]
    · rw [if_neg h0, if_neg h0]
      by_cases h1 : 0 ≤ x.r
      · rw [if_pos h1, if_pos h1, (hok x.r h1 hx.r).2]
      · rw [if_neg h1, if_neg h1]

/-- what the reference's answer is -/
def RefSol (xs : List IneqD) (low : List Int) (a : List Int) (ok : Bool) : Prop :=
  (ok = true → LeastSolL xs low a) ∧ (ok = false → a = [] ∧ ∀ asg, ¬ SolvL xs low asg)

def RSPost (xs : List IneqD) (low : List Int) (w : World) (e : Ending) (w' : World) : Prop :=
  ∃ A m c a ok, e = .returned (.tuple #[.slice A m c, .bool ok]) ∧ RdI .u8 w' w'.heap.size A m c a ∧ RefSol xs low a ok ∧ Below w.heap.size w w'

set_option maxRecDepth 100000 in
set_option maxHeartbeats 4000000 in
theorem refSolve_any (n : Nat) (hn : n ≤ 1048576) (Aw : Option Addr) (nw cw : Nat) (low : List Int) (Al : Option Addr) (nl cl : Nat) (xs : List IneqD) (w : World) (hlw : RdI .u8 w w.heap.size Aw nw cw low) (hx : IneqsV w w.heap.size Al nl cl xs) (hok : OkS (n : Int) low xs) :
    Calls Try.prog 21 #[.int .i64 n, .slice Aw nw cw, .slice Al nl cl] w (RSPost xs (low0 n low) w) := by
  obtain ⟨i0, hi0, hz0, hz1, hz2⟩ := info_parts multInfo
  have hll := hlw.len
  have hxl := hx.len
  have n63 : n ≤ 9223372036854775807 := by omega
  have nw63 : nw ≤ 9223372036854775807 := Nat.le_trans hlw.2.1 hlw.2.2
  have nl63 : nl ≤ 9223372036854775807 := Nat.le_trans hx.2.1 hx.2.2.1
  have Hlw := Lib.hid hlw
  have Hx := Lib.hid hx
  have Hok := Lib.hid hok
  have Hl0 := Lib.hid (low0_len hok)
  have Hrg := Lib.hid (low0_rng hok)
  clear hlw hx hok
  go_enter Try.func21, Try.ntmps21
  go_wp2_with fail
  go_loopg [8, 9] n (fun gh s i wr => ∃ (k : Nat) (A : Option Addr) (c : Nat), k ≤ n ∧ gh = n - k ∧ i = .int .i64 (k : Nat) ∧ s = .slice A k c ∧ wr.ownsRow w.heap.size 27 1 (.slice A k c) k (((low0 n low).take k).map (Value.int .u8)) ∧ Below w.heap.size w wr)
  case atStart => exact ⟨0, none, 0, Nat.zero_le _, rfl, rfl, rfl, by simpa using World.ownsRow_nil _ _ _ _, Below.refl _ _⟩
  case round =>
    obtain ⟨k, A, c, hk, rfl, rfl, rfl, hown, hbel⟩ := hrel
    have Hown := Lib.hid hown
    have Hbel := Lib.hid hbel
    by_cases hkn : k < n
    · have hk0 : k < (low0 n low).length := by rw [Hl0.out]; exact hkn
      have i1 : (0 : Int) ≤ (k : Int) := by omega
      have i3 : (k : Int) < n := by omega
      have htk : (low0 n low).take (k + 1) = (low0 n low).take k ++ [(low0 n low)[k]] := List.take_succ_eq_append_getElem hk0
      have Htk := Lib.hid htk
      by_cases h5 : nw = 0
      · have hlk : (low0 n low)[k] = 1 := by
          have e : low0 (n : Int) low = List.replicate n 1 := by unfold low0; rw [if_pos (List.eq_nil_of_length_eq_zero (by omega))]; simp
          have h : ∀ z ∈ low0 (n : Int) low, z = 1 := by rw [e]; exact fun z hz => List.eq_of_mem_replicate hz
          exact h _ (List.getElem_mem hk0)
        have Hlk := Lib.hid hlk
        subst h5
        clear hlk htk hown hbel
        have hb9 := Hbel.out.alloc Hbel.out.size (Obj.cells #[.int .u8 (1)] 27)
        go_wp2_with (at_builtin; refine wpList_append_rd _ rfl (.tmp 28) (.tmp 29) 22 rfl w.heap.size 27 i0 _ 1 1 Try.underlying22 hi0 hz0 hz1 hz2 rfl (by omega) (.slice A k c) k (((low0 n low).take k).map (Value.int .u8)) rfl (Hown.out.alloc _) (wr.heap.size + 1) (some ⟨wr.heap.size, 0, none⟩) 1 1 [.int .u8 (1)] rfl (rd_new1 _ _ _) (by intro u hu; simp at hu; subst hu; rfl) (by unfold maxLen; omega) (by omega) hb9.size ?_; intro v7 w7 ho7 hg7 hat7; obtain ⟨A7, c7, rfl⟩ := ownsRow_form ho7)
        have hb7 := hb9.grown hg7 hb9.size (fun b' hb' => (ownsRow_lt (Hown.out.alloc (Obj.cells #[.int .u8 (1)] 27)) hb').1)
        go_roundg (n - (k + 1))
        case measure => omega
        case rel => exact ⟨k + 1, A7, c7, by omega, rfl, by simp, rfl, by rw [Htk.out, Hlk.out, List.map_append]; exact ho7, hb7⟩
      · have hlow : low0 (n : Int) low = low := by unfold low0; rw [if_neg (fun e => h5 (by rw [← hll, e]; rfl))]
        have hkl : k < low.length := by rw [← hlow]; exact hk0
        have hnw : nw = n := by rw [← hll, ← hlow]; exact Hl0.out
        obtain ⟨b, o, q, hb, hc⟩ := (Hlw.out.below hbel).at_ (by omega)
        subst q
        have e0 := hc k hkl
        obtain ⟨z, hz⟩ : ∃ z, low[k] = z := ⟨_, rfl⟩
        have Hlk : Hid ((low0 n low)[k] = z) := Lib.hid (by rw [← hz]; congr 1)
        rw [hz] at e0
        have i2 : (k : Int) < nw := by omega
        have d4' : 0 < nw := by omega
        clear hz hc htk hown hbel hlow h5 hnw
        have hb9 := Hbel.out.alloc Hbel.out.size (Obj.cells #[.int .u8 (z)] 27)
        go_wp2_with (at_builtin; refine wpList_append_rd _ rfl (.tmp 21) (.tmp 26) 22 rfl w.heap.size 27 i0 _ 1 1 Try.underlying22 hi0 hz0 hz1 hz2 rfl (by omega) (.slice A k c) k (((low0 n low).take k).map (Value.int .u8)) rfl (Hown.out.alloc _) (wr.heap.size + 1) (some ⟨wr.heap.size, 0, none⟩) 1 1 [.int .u8 (z)] rfl (rd_new1 _ _ _) (by intro u hu; simp at hu; subst hu; rfl) (by unfold maxLen; omega) (by omega) hb9.size ?_; intro v7 w7 ho7 hg7 hat7; obtain ⟨A7, c7, rfl⟩ := ownsRow_form ho7)
        have hb7 := hb9.grown hg7 hb9.size (fun b' hb' => (ownsRow_lt (Hown.out.alloc (Obj.cells #[.int .u8 (z)] 27)) hb').1)
        go_roundg (n - (k + 1))
        case measure => omega
        case rel => exact ⟨k + 1, A7, c7, by omega, rfl, by simp, rfl, by rw [Htk.out, Hlk.out, List.map_append]; exact ho7, hb7⟩
    · have hkn' : k = n := by omega
      subst hkn'
      have hinv := InvL.start xs (low0 k low) (fun v hv => (Hrg.out _ (getD_mem hv)).2)
      have hown0 : wr.ownsRow w.heap.size 27 1 (.slice A k c) k ((low0 k low).map (Value.int .u8)) := by
        have := Hown.out
        rw [List.take_of_length_le (by rw [Hl0.out]; exact Nat.le_refl _)] at this
        exact this
      have Hinv := Lib.hid hinv
      have Hown0 := Lib.hid hown0
      have Hov : Hid (∀ x ∈ xs, OverL k x) := Lib.hid fun x hx => OverL.of_may (Hok.out.may x hx)
      clear hown hbel hinv hown0 Hown hkn
      go_wp2_with fail
      go_loopg [10] (slackL (low0 k low)) (fun gh _ wr => ∃ is why, gh = slackL is ∧ InvL xs (low0 k low) is why ∧ wr.ownsRow w.heap.size 27 1 (.slice A k c) k (is.map (Value.int .u8)) ∧ Below w.heap.size w wr)
      case atStart => exact ⟨_, _, rfl, Hinv.out, Hown0.out, Hbel.out⟩
      case round =>
        obtain ⟨is0, why0, rfl, hinv0, hown1, hbel1⟩ := hrel
        have Hinv0 := Lib.hid hinv0
        have Hown1 := Lib.hid hown1
        have Hbel1 := Lib.hid hbel1
        clear hinv0 hown1 hbel1
        go_wp2_with fail
        go_loopg [10, 11] nl (fun gh more i wr => ∃ (j : Nat) (is why : List Int) (b : Bool), j ≤ nl ∧ gh = nl - j ∧ i = .int .i64 (j : Nat) ∧ more = .bool b ∧ InvL xs (low0 k low) is why ∧ wr.ownsRow w.heap.size 27 1 (.slice A k c) k (is.map (Value.int .u8)) ∧ Below w.heap.size w wr ∧ (b = false → is = is0 ∧ ∀ (i : Nat) x, i < j → xs[i]? = some x → holdL is x) ∧ (b = true → slackL is + 1 ≤ slackL is0) ∧ slackL is ≤ slackL is0)
        case atStart => exact ⟨0, is0, why0, false, Nat.zero_le _, rfl, rfl, rfl, Hinv0.out, Hown1.out, Hbel1.out, fun _ => ⟨rfl, fun i x h => absurd h (by omega)⟩, fun h => Bool.noConfusion h, Nat.le_refl _⟩
        case round =>
          obtain ⟨j, is, why, b, hj, rfl, rfl, rfl, hinv, hown2, hbel2, hb0, hb1, hsl⟩ := hrel
          have Hinv2 := Lib.hid hinv
          have Hown2 := Lib.hid hown2
          have Hbel2 := Lib.hid hbel2
          have Hb0 := Lib.hid hb0
          have Hb1 := Lib.hid hb1
          have Hsl := Lib.hid hsl
          have hisl : is.length = k := by rw [hinv.il]; exact Hl0.out
          have Hisl := Lib.hid hisl
          have hrng : ∀ v, v < k → 1 ≤ is.getD v 0 ∧ is.getD v 0 ≤ 3 := fun v hv => by
            have h1 := hinv.le v (by rw [Hl0.out]; exact hv)
            have h2 := hinv.top v (by rw [Hl0.out]; exact hv)
            have h3 := Hrg.out _ (getD_mem (l := low0 k low) (by rw [Hl0.out]; exact hv))
            omega
          have Hrng := Lib.hid hrng
          clear hinv hown2 hb0 hb1 hsl hrng
          by_cases hjl : j < nl
          · have hjx : j < xs.length := by omega
            obtain ⟨bl, offl, q, hbl, hcell⟩ := (Hx.out.below hbel2).at_ (by omega)
            subst q
            obtain ⟨e0, e1, e2, e3⟩ := hcell j hjx
            have hxi : xs[j]? = some xs[j] := List.getElem?_eq_getElem hjx
            have hov := Hov.out _ (List.getElem_mem hjx)
            generalize xs[j] = x at e0 e1 e2 e3 hxi hov
            obtain ⟨hbad, hiff⟩ := holdsQ_iff hov hisl Hrng.out
            have hone := refOne_any x.lv x.lc x.c x.r A k c is wr wr.heap.size (RdI.of_own Hown2.out) (Nat.le_refl _) hbad (fun h => (hov.lv h).1)
            have Hone := Lib.hid hone
            have Hxi := Lib.hid hxi
            have Hovx := Lib.hid hov
            have Hiff := Lib.hid hiff
            have i1 : (0 : Int) ≤ (j : Int) := by omega
            have i2 : (j : Int) < nl := by omega
            clear hcell hxi hov hbad hiff hone hbel2
            cases hh : holdsQ is x.lv x.lc x.c x.r with
            | true =>
              have Hh := Lib.hid hh
              clear hh
              go_wp2_with fail
              refine Hone.out.mono ?_
              rintro e w3 ⟨rfl, hb3⟩
              rw [Hh.out]
              have Hb9 := Lib.hid (Hbel2.out.trans (hb3.mono Hbel2.out.size))
              have Ho9 := Lib.hid (ownsRow_beyond Hown2.out hb3)
              clear hb3
              go_wp2_with fail
              go_roundg (nl - (j + 1))
              case measure => omega
              case rel =>
                refine ⟨j + 1, is, why, b, by omega, rfl, by simp, rfl, Hinv2.out, Ho9.out, Hb9.out, fun h => ⟨(Hb0.out h).1, fun i y hi hy => ?_⟩, Hb1.out, Hsl.out⟩
                rcases Nat.lt_or_ge i j with h' | h'
                · exact (Hb0.out h).2 i y h' hy
                · have : i = j := by omega
                  subst this
                  rw [Hxi.out] at hy
                  cases hy
                  exact Hiff.out.1 Hh.out
            | false =>
              have Hh := Lib.hid hh
              have hnh : ¬ holdL is x := fun h => by have := Hiff.out.2 h; rw [hh] at this; cases this
              have Hnh := Lib.hid hnh
              clear hh hnh
              by_cases hr0 : x.r < 0
              · have f1 : decide (x.r < 0) = true := by simp; omega
                have hR : RefSol xs (low0 k low) [] false := ⟨fun h => Bool.noConfusion h, fun _ => ⟨rfl, fun asg ha => Hinv2.out.clash (List.mem_of_getElem? Hxi.out) (by rw [Hl0.out]; exact Hovx.out) hr0 (by have := Hnh.out; unfold holdL at this; rw [if_neg (by omega)] at this; omega) asg ha⟩⟩
                have HR := Lib.hid hR
                clear hR hr0
                go_wp2_with fail
                refine Hone.out.mono ?_
                rintro e w3 ⟨rfl, hb3⟩
                rw [Hh.out]
                have Hb9 := Lib.hid (Hbel2.out.trans (hb3.mono Hbel2.out.size))
                obtain ⟨_, _, q, _, hcell⟩ := (Hx.out.below Hb9.out).at_ (by omega)
                cases q
                obtain ⟨_, _, _, e3⟩ := hcell j hjx
                rw [(List.getElem?_eq_some_iff.1 Hxi.out).2] at e3
                clear hb3 hcell
                go_wp2_with fail
                exact bodyPost_ret (v := .tuple #[.slice none 0 0, .bool false]) (by simp [results, Try.results21, go_sem]) rfl ⟨_, _, _, _, _, rfl, RdI.nil, HR.out, Hb9.out⟩
              · have f1 : decide (x.r < 0) = false := by simp; omega
                have hb : raiseB is x = true := (raiseB_iff _ _).2 ⟨by omega, by have := Hnh.out; unfold holdL at this; rw [if_pos (by omega)] at this; omega⟩
                have hinv9 := Hinv2.out.raise Hxi.out (by rw [Hl0.out]; exact Hovx.out) hb
                have hsl9 := slackL_raise Hovx.out hisl (fun v hv => (Hrng.out v hv).2) hb
                obtain ⟨g, hA⟩ : ∃ g, A = some ⟨g, 0, none⟩ := by
                  rcases Hown2.out.2 with ⟨_, hk0⟩ | ⟨g', _, _, e, _⟩
                  · have := Hovx.out.r; omega
                  · cases e; exact ⟨g', rfl⟩
                subst hA
                obtain ⟨lv, lc, xc, xr⟩ := x
                dsimp only at e0 e1 e2 e3 hr0 f1 hinv9 hsl9
                obtain ⟨kr, hkr⟩ : ∃ kr : Nat, xr = (kr : Int) := ⟨xr.toNat, (Int.toNat_of_nonneg (by omega)).symm⟩
                subst hkr
                have hkrk : kr < k := by have := Hovx.out.r; dsimp only at this; omega
                rw [Int.toNat_natCast] at hinv9 hsl9
                by_cases h0 : lc = 0
                · subst h0
                  obtain ⟨v0, v1⟩ := Hovx.out.lv rfl
                  dsimp only at v0 v1
                  obtain ⟨lvn, hlv⟩ : ∃ m : Nat, lv = (m : Int) := ⟨lv.toNat, (Int.toNat_of_nonneg v0).symm⟩
                  subst hlv
                  have hlvk : lvn < k := by omega
                  have hL : leftL is ⟨(lvn : Int), 0, xc, (kr : Int)⟩ = is[lvn]'(by omega) := by
                    unfold leftL
                    dsimp only
                    rw [if_pos rfl, Int.toNat_natCast, List.getD_eq_getElem?_getD, List.getElem?_eq_getElem (by omega)]
                    rfl
                  rw [hL] at hinv9 hsl9
                  clear hr0 hL
                  have Hinv9 := Lib.hid hinv9
                  have Hsl9 := Lib.hid hsl9
                  clear hinv9 hsl9 hb
                  go_wp2_with fail
                  refine Hone.out.mono ?_
                  rintro e w3 ⟨rfl, hb3⟩
                  rw [Hh.out]
                  have hb9 := Hbel2.out.trans (hb3.mono Hbel2.out.size)
                  have ho9 := ownsRow_beyond Hown2.out hb3
                  obtain ⟨_, _, q, _, hcell⟩ := (Hx.out.below hb9).at_ (by omega)
                  cases q
                  obtain ⟨e0, e1, e2, e3⟩ := hcell j hjx
                  rw [(List.getElem?_eq_some_iff.1 Hxi.out).2] at e0 e1 e2 e3
                  obtain ⟨_, _, q, _, hci⟩ := (RdI.of_own ho9).at_ (by omega)
                  cases q
                  simp only [Nat.zero_add] at hci
                  have k1 : (0 : Int) ≤ (kr : Int) := by omega
                  have k2 : (kr : Int) < k := by omega
                  have k3 := hci kr (by omega)
                  have k4 := ho9.frozenAt kr
                  have k5 := hci lvn (by omega)
                  have j1 : (0 : Int) ≤ (lvn : Int) := by omega
                  have j2 : (lvn : Int) < k := by omega
                  clear hci hcell hb3
                  have hst := (ho9.stored kr (.int .u8 (is[lvn]))).1
                  rw [← List.map_set] at hst
                  have hbs := hb9.setCell (p := ⟨g, kr, none⟩) (show w.heap.size ≤ g from (ownsRow_lt ho9 (b := g) rfl).1) (.int .u8 (is[lvn]))
                  have Hst := Lib.hid hst
                  have Hbs := Lib.hid hbs
                  clear hst hbs ho9 hb9
                  go_wp2_with fail
                  go_roundg (nl - (j + 1))
                  case measure => omega
                  case rel => exact ⟨j + 1, _, _, true, by omega, rfl, by simp, rfl, Hinv9.out, Hst.out, Hbs.out, fun h => Bool.noConfusion h, fun _ => by have := Hsl9.out; have := Hsl.out; omega, by have := Hsl9.out; have := Hsl.out; omega⟩
                · have hL : leftL is ⟨lv, lc, xc, (kr : Int)⟩ = lc := by
                    unfold leftL
                    dsimp only
                    rw [if_neg h0]
                  rw [hL] at hinv9 hsl9
                  have g0 : (lc == 0) = false := by simp [h0]
                  clear hr0 hL h0
                  have Hinv9 := Lib.hid hinv9
                  have Hsl9 := Lib.hid hsl9
                  clear hinv9 hsl9 hb
                  go_wp2_with fail
                  refine Hone.out.mono ?_
                  rintro e w3 ⟨rfl, hb3⟩
                  rw [Hh.out]
                  have hb9 := Hbel2.out.trans (hb3.mono Hbel2.out.size)
                  have ho9 := ownsRow_beyond Hown2.out hb3
                  obtain ⟨_, _, q, _, hcell⟩ := (Hx.out.below hb9).at_ (by omega)
                  cases q
                  obtain ⟨e0, e1, e2, e3⟩ := hcell j hjx
                  rw [(List.getElem?_eq_some_iff.1 Hxi.out).2] at e0 e1 e2 e3
                  obtain ⟨_, _, q, _, hci⟩ := (RdI.of_own ho9).at_ (by omega)
                  cases q
                  simp only [Nat.zero_add] at hci
                  have k1 : (0 : Int) ≤ (kr : Int) := by omega
                  have k2 : (kr : Int) < k := by omega
                  have k3 := hci kr (by omega)
                  have k4 := ho9.frozenAt kr
                  clear hci hcell hb3
                  have hst := (ho9.stored kr (.int .u8 (lc))).1
                  rw [← List.map_set] at hst
                  have hbs := hb9.setCell (p := ⟨g, kr, none⟩) (show w.heap.size ≤ g from (ownsRow_lt ho9 (b := g) rfl).1) (.int .u8 (lc))
                  have Hst := Lib.hid hst
                  have Hbs := Lib.hid hbs
                  clear hst hbs ho9 hb9
                  go_wp2_with fail
                  go_roundg (nl - (j + 1))
                  case measure => omega
                  case rel => exact ⟨j + 1, _, _, true, by omega, rfl, by simp, rfl, Hinv9.out, Hst.out, Hbs.out, fun h => Bool.noConfusion h, fun _ => by have := Hsl9.out; have := Hsl.out; omega, by have := Hsl9.out; have := Hsl.out; omega⟩
          · cases b with
            | false =>
              have hR : RefSol xs (low0 k low) is true := by
                obtain ⟨_, h2⟩ := Hb0.out rfl
                have hall : ∀ x ∈ xs, holdL is x := fun x hx => by
                  obtain ⟨i, hi⟩ := List.getElem?_of_mem hx
                  exact h2 i x (by have := (List.getElem?_eq_some_iff.1 hi).1; omega) hi
                exact ⟨fun _ => ⟨⟨Hinv2.out.il, Hinv2.out.le, hall⟩, fun asg ha => Hinv2.out.least asg ha.sol⟩, fun h => Bool.noConfusion h⟩
              have HR := Lib.hid hR
              have Hr := Lib.hid (RdI.of_own Hown2.out)
              clear hR hbel2
              go_wp2_with fail
              exact bodyPost_ret (v := .tuple #[.slice A k c, .bool true]) (by simp [results, Try.results21, go_sem]) rfl ⟨_, _, _, _, _, rfl, Hr.out, HR.out, Hbel2.out⟩
            | true =>
              clear hbel2
              go_wp2_with fail
              go_roundg (slackL is)
              case measure => have := Hb1.out (by first | rfl | trivial); omega
              case rel => exact ⟨is, why, rfl, Hinv2.out, Hown2.out, Hbel2.out⟩

end Go.Proofs.Ythabkpkgocafoaa

