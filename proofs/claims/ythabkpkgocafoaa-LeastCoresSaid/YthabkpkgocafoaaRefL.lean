/- Contracts of slices.Equal at multiplicities and of usufructref04.May. -/
import Derived.Test.YthabkpkgocafoaaLeastS
import Derived.Test.YthabkpkgocafoaaIneqC
namespace Go.Proofs.Ythabkpkgocafoaa
set_option linter.unusedVariables false
set_option linter.unusedSimpArgs false
open Go.RowKit

set_option maxHeartbeats 1000000 in
theorem equalM_any (A : Option Addr) (n c : Nat) (us : List Int) (A' : Option Addr) (n' c' : Nat) (us' : List Int) (w : World) (h : RdI .u8 w w.heap.size A n c us) (h' : RdI .u8 w w.heap.size A' n' c' us') :
    Calls Try.prog 17 #[.slice A n c, .slice A' n' c'] w fun e w' => e = .returned (.bool (us == us')) ∧ Below w.heap.size w w' := by
  have hl := h.len
  have hl' := h'.len
  have n63 : n ≤ 9223372036854775807 := Nat.le_trans h.2.1 h.2.2
  have n63' : n' ≤ 9223372036854775807 := Nat.le_trans h'.2.1 h'.2.2
  by_cases e : n = n'
  · subst e
    have d0 : ((n : Int) != (n : Int)) = false := by simp
    have H := Lib.hid h
    have H' := Lib.hid h'
    clear h h'
    go_enter Try.func17, Try.ntmps17
    go_wp2_with fail
    go_loopg [5, 13] n (fun gh _ i wr => ∃ k, k ≤ n ∧ gh = n - k ∧ i = .int .i64 (k : Nat) ∧ (∀ (j : Nat) (h1 : j < us.length) (h2 : j < us'.length), j < k → us[j] = us'[j]) ∧ Below w.heap.size w wr)
    case atStart => exact ⟨0, Nat.zero_le _, rfl, rfl, fun j _ _ h => absurd h (by omega), Below.refl _ _⟩
    case round =>
      obtain ⟨k, hk, rfl, rfl, hall, hbel⟩ := hrel
      have Hall := Lib.hid hall
      have Hbel := Lib.hid hbel
      clear hall
      by_cases hkn : k < n
      · have k1 : k < us.length := by omega
        have k2 : k < us'.length := by omega
        obtain ⟨b, o, rfl, hb, hc⟩ := (H.out.below hbel).at_ (by omega)
        obtain ⟨b', o', rfl, hb', hc'⟩ := (H'.out.below hbel).at_ (by omega)
        have e0 := hc k k1
        have e1 := hc' k k2
        have i1 : (0 : Int) ≤ (k : Int) := by omega
        have i2 : (k : Int) < n := by omega
        by_cases he : us[k] = us'[k]
        · have d1 : (us[k] != us'[k]) = false := by simp [he]
          have He := Lib.hid he
          clear he
          generalize us[k] = z at e0 d1
          generalize us'[k] = z' at e1 d1
          clear hc hc' hbel
          go_wp2_with fail
          go_quiet (fail)
          go_wp2_with fail
          go_roundg (n - (k + 1))
          case measure => omega
          case rel =>
            refine ⟨k + 1, by omega, rfl, by simp, fun j h1 h2 hj => ?_, below_drewN_t Hbel.out _⟩
            rcases Nat.lt_or_ge j k with h | h
            · exact Hall.out j h1 h2 h
            · have : j = k := by omega
              subst this
              exact He.out
        · have d1 : (us[k] != us'[k]) = true := by simp [he]
          have HF : Hid (false = (us == us')) := by
            show _ = _
            symm
            rw [beq_eq_false_iff_ne]
            intro hu
            subst hu
            exact he rfl
          clear he
          generalize us[k] = z at e0 d1
          generalize us'[k] = z' at e1 d1
          clear hc hc' hbel
          go_wp2_with fail
          go_quiet (fail)
          go_wp2_with fail
          go_ret
          exact ⟨ret_bool HF.out, below_drewN_t Hbel.out _⟩
      · have HF : Hid (true = (us == us')) := by
          show _ = _
          symm
          rw [beq_iff_eq]
          apply List.ext_getElem (by omega)
          intro j h1 h2
          exact Hall.out j h1 h2 (by omega)
        clear hbel
        go_wp2_with fail
        go_ret
        exact ⟨ret_bool HF.out, Hbel.out⟩
  · have d0 : ((n : Int) != (n' : Int)) = true := by simp; omega
    have HF : Hid (false = (us == us')) := by
      show _ = _
      symm
      rw [beq_eq_false_iff_ne]
      intro hu
      rw [hu] at hl
      omega
    clear h h' e
    go_enter Try.func17, Try.ntmps17
    go_wp2_with fail
    go_ret
    exact ⟨ret_bool HF.out, Below.refl _ _⟩

set_option maxHeartbeats 2000000 in
theorem refMay4_any (bb : Bool) (n : Int) (Aw : Option Addr) (nw cw : Nat) (low : List Int) (Al : Option Addr) (nl cl : Nat) (xs : List IneqD) (w : World) (hlw : RdI .u8 w w.heap.size Aw nw cw low) (hx : IneqsV w w.heap.size Al nl cl xs) (hbb : bb = true ↔ OkS n low xs) :
    Calls Try.prog 20 #[.int .i64 n, .slice Aw nw cw, .slice Al nl cl] w fun e w' => e = .returned (.bool bb) ∧ Below w.heap.size w w' := by
  have hno : ¬ OkS n low xs → false = bb := fun h => by cases bb; rfl; exact absurd (hbb.1 rfl) h
  have hyes : OkS n low xs → true = bb := fun h => (hbb.2 h).symm
  have Hno := Lib.hid hno
  have Hyes := Lib.hid hyes
  clear hno hyes hbb
  have hll := hlw.len
  have hxl := hx.len
  have nw63 : nw ≤ 9223372036854775807 := Nat.le_trans hlw.2.1 hlw.2.2
  have nl63 : nl ≤ 9223372036854775807 := Nat.le_trans hx.2.1 hx.2.2.1
  by_cases h3 : n < 0
  · have d3 : decide (n < 0) = true := by simp; omega
    have HN : Hid (false = bb) := Lib.hid (Hno.out fun h => by have := h.n0; omega)
    clear hlw hx h3
    go_enter Try.func20, Try.ntmps20
    go_wp2_with fail
    go_ret
    exact ⟨ret_bool HN.out, Below.refl _ _⟩
  · have d3 : decide (n < 0) = false := by simp; omega
    by_cases h4 : 0 < nw ∧ (nw : Int) ≠ n
    · have d4 : decide ((nw : Int) > 0) = true := by simp; omega
      have d4' : 0 < nw := by omega
      have d5 : ((nw : Int) != n) = true := by simp; omega
      have HN : Hid (false = bb) := Lib.hid (Hno.out fun h => by rcases h.len with e | e; (rw [e] at hll; simp at hll; omega); omega)
      clear hlw hx h3 h4
      go_enter Try.func20, Try.ntmps20
      go_wp2_with fail
      go_ret
      exact ⟨ret_bool HN.out, Below.refl _ _⟩
    · have HN0 : Hid (0 ≤ n) := Lib.hid (by omega)
      have HLen : Hid (low = [] ∨ (low.length : Int) = n) := Lib.hid (by
        by_cases h5 : nw = 0
        · exact Or.inl (List.eq_nil_of_length_eq_zero (by omega))
        · exact Or.inr (by omega))
      have Hlw := Lib.hid hlw
      have Hx := Lib.hid hx
      clear hlw hx
      by_cases h5 : nw = 0
      · subst h5
        clear h3 h4
        go_enter Try.func20, Try.ntmps20
        go_wp2_with fail
        go_loopg [7] 0 (fun gh i wr => ∃ k, k ≤ 0 ∧ gh = 0 - k ∧ i = .int .i64 (k : Nat) ∧ (∀ (j : Nat) (h1 : j < low.length), j < k → 1 ≤ low[j] ∧ low[j] ≤ 3) ∧ wr = w)
        case atStart => exact ⟨0, Nat.zero_le _, rfl, rfl, fun j _ h => absurd h (by omega), rfl⟩
        case round =>
          obtain ⟨k, hk, rfl, rfl, hall, hwr⟩ := hrel
          rw [hwr]
          clear hwr
          have Hall := Lib.hid hall
          clear hall
          by_cases hkn : k < 0
          · skip
            have k1 : k < low.length := by omega
            obtain ⟨b, o, q, hb, hc⟩ := Hlw.out.at_ (by omega)
            subst q
            have e0 := hc k k1
            have i1 : (0 : Int) ≤ (k : Int) := by omega
            have i2 : (k : Int) < 0 := by omega
            obtain ⟨z, hz⟩ : ∃ z, low[k] = z := ⟨_, rfl⟩
            rw [hz] at e0
            have Hz := Lib.hid hz
            clear hz hc
            by_cases hz1 : 1 ≤ z ∧ z ≤ 3
            · have f1 : decide (z < 1) = false := by simp; omega
              have f2 : decide (z > 3) = false := by simp; omega
              have Hz1 := Lib.hid hz1
              clear hz1
              go_wp2_with fail
              go_roundg (0 - (k + 1))
              case measure => omega
              case rel =>
                refine ⟨k + 1, by omega, rfl, by simp, fun j h1 hj => ?_, rfl⟩
                rcases Nat.lt_or_ge j k with h | h
                · exact Hall.out j h1 h
                · have : j = k := by omega
                  subst this
                  rw [Hz.out]; exact Hz1.out
            · have HN : Hid (false = bb) := Lib.hid (Hno.out fun h => by have := h.rng _ (List.getElem_mem k1); rw [Hz.out] at this; omega)
              by_cases hz2 : z < 1
              · have f1 : decide (z < 1) = true := by simp; omega
                clear hz1 hz2
                go_wp2_with fail
                go_ret
                exact ⟨ret_bool HN.out, Below.refl _ _⟩
              · have f1 : decide (z < 1) = false := by simp; omega
                have f2 : decide (z > 3) = true := by simp; omega
                clear hz1 hz2
                go_wp2_with fail
                go_ret
                exact ⟨ret_bool HN.out, Below.refl _ _⟩
          · have HR : Hid (∀ z ∈ low, 1 ≤ z ∧ z ≤ 3) := Lib.hid fun z hz => by
              obtain ⟨j, hj, rfl⟩ := List.getElem_of_mem hz
              exact Hall.out j hj (by omega)
            go_wp2_with fail
            go_loopg [8] nl (fun gh i wr => ∃ k, k ≤ nl ∧ gh = nl - k ∧ i = .int .i64 (k : Nat) ∧ (∀ (j : Nat) (h1 : j < xs.length), j < k → mayL xs[j] n = true) ∧ Below w.heap.size w wr)
            case atStart => exact ⟨0, Nat.zero_le _, rfl, rfl, fun j _ h => absurd h (by omega), Below.refl _ _⟩
            case round =>
              obtain ⟨k, hk, rfl, rfl, hall, hbel⟩ := hrel
              have Hall := Lib.hid hall
              have Hbel := Lib.hid hbel
              clear hall
              by_cases hkl : k < nl
              · have k1 : k < xs.length := by omega
                obtain ⟨b, o, q, hb, hc⟩ := (Hx.out.below hbel).at_ (by omega)
                subst q
                obtain ⟨e0, e1, e2, e3⟩ := hc k k1
                have i1 : (0 : Int) ≤ (k : Int) := by omega
                have i2 : (k : Int) < nl := by omega
                obtain ⟨x, hx⟩ : ∃ x, xs[k] = x := ⟨_, rfl⟩
                rw [hx] at e0 e1 e2 e3
                have Hxk := Lib.hid hx
                clear hx hc hbel
                have hN1 : mayL x n = false → false = bb := fun hm => Hno.out fun h => by have := h.may _ (List.getElem_mem k1); rw [Hxk.out, hm] at this; cases this
                have HN1 := Lib.hid hN1
                clear hN1
                have hml : mayL x n = (mayQ x.lv x.lc x.c x.r && (x.lc != 0 || decide (x.lv < n)) && decide (x.r < n)) := rfl
                cases hm : mayQ x.lv x.lc x.c x.r
                · have HN : Hid (false = bb) := Lib.hid (HN1.out (by rw [hml, hm]; rfl))
                  have Hm := Lib.hid hm
                  clear hml hm
                  go_wp2_with fail
                  refine (refMayQ_any x.lv x.lc x.c x.r wr).mono ?_
                  rintro e w1 ⟨rfl, hb1⟩
                  rw [Hm.out]
                  have hb9 := Hbel.out.trans (hb1.mono Hbel.out.size)
                  obtain ⟨_, _, q, _, hc⟩ := (Hx.out.below hb9).at_ (by omega)
                  cases q
                  obtain ⟨e0, e1, e2, e3⟩ := hc k k1
                  rw [Hxk.out] at e0 e1 e2 e3
                  clear hb1 hc
                  go_wp2_with fail
                  go_ret
                  exact ⟨ret_bool HN.out, hb9⟩
                · have Hm := Lib.hid hm
                  by_cases h0 : x.lc = 0
                  · have g0 : (x.lc == 0) = true := by simp [h0]
                    by_cases hv : x.lv < n
                    · have g1 : decide (x.lv ≥ n) = false := by simp; omega
                      by_cases hr : x.r < n
                      · have g2 : decide (x.r ≥ n) = false := by simp; omega
                        have Hy : Hid (mayL x n = true) := Lib.hid (by rw [hml, hm]; simp [hv, hr])
                        clear hml hm hv hr h0
                        go_wp2_with fail
                        refine (refMayQ_any x.lv x.lc x.c x.r wr).mono ?_
                        rintro e w1 ⟨rfl, hb1⟩
                        rw [Hm.out]
                        have hb9 := Hbel.out.trans (hb1.mono Hbel.out.size)
                        obtain ⟨_, _, q, _, hc⟩ := (Hx.out.below hb9).at_ (by omega)
                        cases q
                        obtain ⟨e0, e1, e2, e3⟩ := hc k k1
                        rw [Hxk.out] at e0 e1 e2 e3
                        clear hb1 hc
                        go_wp2_with fail
                        go_roundg (nl - (k + 1))
                        case measure => omega
                        case rel =>
                          refine ⟨k + 1, by omega, rfl, by simp, fun j h1 hj => ?_, hb9⟩
                          rcases Nat.lt_or_ge j k with h | h
                          · exact Hall.out j h1 h
                          · have : j = k := by omega
                            subst this
                            rw [Hxk.out]; exact Hy.out
                      · have g2 : decide (x.r ≥ n) = true := by simp; omega
                        have HN : Hid (false = bb) := Lib.hid (HN1.out (by rw [hml, hm]; simp [hr]))
                        clear hml hm hv hr h0
                        go_wp2_with fail
                        refine (refMayQ_any x.lv x.lc x.c x.r wr).mono ?_
                        rintro e w1 ⟨rfl, hb1⟩
                        rw [Hm.out]
                        have hb9 := Hbel.out.trans (hb1.mono Hbel.out.size)
                        obtain ⟨_, _, q, _, hc⟩ := (Hx.out.below hb9).at_ (by omega)
                        cases q
                        obtain ⟨e0, e1, e2, e3⟩ := hc k k1
                        rw [Hxk.out] at e0 e1 e2 e3
                        clear hb1 hc
                        go_wp2_with fail
                        go_ret
                        exact ⟨ret_bool HN.out, hb9⟩
                    · have g1 : decide (x.lv ≥ n) = true := by simp; omega
                      have HN : Hid (false = bb) := Lib.hid (HN1.out (by rw [hml, hm]; simp [hv, h0]))
                      clear hml hm hv h0
                      go_wp2_with fail
                      refine (refMayQ_any x.lv x.lc x.c x.r wr).mono ?_
                      rintro e w1 ⟨rfl, hb1⟩
                      rw [Hm.out]
                      have hb9 := Hbel.out.trans (hb1.mono Hbel.out.size)
                      obtain ⟨_, _, q, _, hc⟩ := (Hx.out.below hb9).at_ (by omega)
                      cases q
                      obtain ⟨e0, e1, e2, e3⟩ := hc k k1
                      rw [Hxk.out] at e0 e1 e2 e3
                      clear hb1 hc
                      go_wp2_with fail
                      go_ret
                      exact ⟨ret_bool HN.out, hb9⟩
                  · have g0 : (x.lc == 0) = false := by simp [h0]
                    by_cases hr : x.r < n
                    · have g2 : decide (x.r ≥ n) = false := by simp; omega
                      have Hy : Hid (mayL x n = true) := Lib.hid (by rw [hml, hm]; simp [h0, hr])
                      clear hml hm hr h0
                      go_wp2_with fail
                      refine (refMayQ_any x.lv x.lc x.c x.r wr).mono ?_
                      rintro e w1 ⟨rfl, hb1⟩
                      rw [Hm.out]
                      have hb9 := Hbel.out.trans (hb1.mono Hbel.out.size)
                      obtain ⟨_, _, q, _, hc⟩ := (Hx.out.below hb9).at_ (by omega)
                      cases q
                      obtain ⟨e0, e1, e2, e3⟩ := hc k k1
                      rw [Hxk.out] at e0 e1 e2 e3
                      clear hb1 hc
                      go_wp2_with fail
                      go_roundg (nl - (k + 1))
                      case measure => omega
                      case rel =>
                        refine ⟨k + 1, by omega, rfl, by simp, fun j h1 hj => ?_, hb9⟩
                        rcases Nat.lt_or_ge j k with h | h
                        · exact Hall.out j h1 h
                        · have : j = k := by omega
                          subst this
                          rw [Hxk.out]; exact Hy.out
                    · have g2 : decide (x.r ≥ n) = true := by simp; omega
                      have HN : Hid (false = bb) := Lib.hid (HN1.out (by rw [hml, hm]; simp [hr]))
                      clear hml hm hr h0
                      go_wp2_with fail
                      refine (refMayQ_any x.lv x.lc x.c x.r wr).mono ?_
                      rintro e w1 ⟨rfl, hb1⟩
                      rw [Hm.out]
                      have hb9 := Hbel.out.trans (hb1.mono Hbel.out.size)
                      obtain ⟨_, _, q, _, hc⟩ := (Hx.out.below hb9).at_ (by omega)
                      cases q
                      obtain ⟨e0, e1, e2, e3⟩ := hc k k1
                      rw [Hxk.out] at e0 e1 e2 e3
                      clear hb1 hc
                      go_wp2_with fail
                      go_ret
                      exact ⟨ret_bool HN.out, hb9⟩
              · have HY : Hid (true = bb) := Lib.hid (Hyes.out ⟨HN0.out, HLen.out, fun x hx => by
                  obtain ⟨j, hj, rfl⟩ := List.getElem_of_mem hx
                  exact Hall.out j hj (by omega), HR.out⟩)
                clear hbel
                go_wp2_with fail
                go_ret
                exact ⟨ret_bool HY.out, Hbel.out⟩
      · have d4 : decide ((nw : Int) > 0) = true := by simp; omega
        have d4' : 0 < nw := by omega
        have d5 : ((nw : Int) != n) = false := by simp; omega
        clear h5
        clear h3 h4
        go_enter Try.func20, Try.ntmps20
        go_wp2_with fail
        go_loopg [7] nw (fun gh i wr => ∃ k, k ≤ nw ∧ gh = nw - k ∧ i = .int .i64 (k : Nat) ∧ (∀ (j : Nat) (h1 : j < low.length), j < k → 1 ≤ low[j] ∧ low[j] ≤ 3) ∧ wr = w)
        case atStart => exact ⟨0, Nat.zero_le _, rfl, rfl, fun j _ h => absurd h (by omega), rfl⟩
        case round =>
          obtain ⟨k, hk, rfl, rfl, hall, hwr⟩ := hrel
          rw [hwr]
          clear hwr
          have Hall := Lib.hid hall
          clear hall
          by_cases hkn : k < nw
          · skip
            have k1 : k < low.length := by omega
            obtain ⟨b, o, q, hb, hc⟩ := Hlw.out.at_ (by omega)
            subst q
            have e0 := hc k k1
            have i1 : (0 : Int) ≤ (k : Int) := by omega
            have i2 : (k : Int) < nw := by omega
            obtain ⟨z, hz⟩ : ∃ z, low[k] = z := ⟨_, rfl⟩
            rw [hz] at e0
            have Hz := Lib.hid hz
            clear hz hc
            by_cases hz1 : 1 ≤ z ∧ z ≤ 3
            · have f1 : decide (z < 1) = false := by simp; omega
              have f2 : decide (z > 3) = false := by simp; omega
              have Hz1 := Lib.hid hz1
              clear hz1
              go_wp2_with fail
              go_roundg (nw - (k + 1))
              case measure => omega
              case rel =>
                refine ⟨k + 1, by omega, rfl, by simp, fun j h1 hj => ?_, rfl⟩
                rcases Nat.lt_or_ge j k with h | h
                · exact Hall.out j h1 h
                · have : j = k := by omega
                  subst this
                  rw [Hz.out]; exact Hz1.out
            · have HN : Hid (false = bb) := Lib.hid (Hno.out fun h => by have := h.rng _ (List.getElem_mem k1); rw [Hz.out] at this; omega)
              by_cases hz2 : z < 1
              · have f1 : decide (z < 1) = true := by simp; omega
                clear hz1 hz2
                go_wp2_with fail
                go_ret
                exact ⟨ret_bool HN.out, Below.refl _ _⟩
              · have f1 : decide (z < 1) = false := by simp; omega
                have f2 : decide (z > 3) = true := by simp; omega
                clear hz1 hz2
                go_wp2_with fail
                go_ret
                exact ⟨ret_bool HN.out, Below.refl _ _⟩
          · have HR : Hid (∀ z ∈ low, 1 ≤ z ∧ z ≤ 3) := Lib.hid fun z hz => by
              obtain ⟨j, hj, rfl⟩ := List.getElem_of_mem hz
              exact Hall.out j hj (by omega)
            go_wp2_with fail
            go_loopg [8] nl (fun gh i wr => ∃ k, k ≤ nl ∧ gh = nl - k ∧ i = .int .i64 (k : Nat) ∧ (∀ (j : Nat) (h1 : j < xs.length), j < k → mayL xs[j] n = true) ∧ Below w.heap.size w wr)
            case atStart => exact ⟨0, Nat.zero_le _, rfl, rfl, fun j _ h => absurd h (by omega), Below.refl _ _⟩
            case round =>
              obtain ⟨k, hk, rfl, rfl, hall, hbel⟩ := hrel
              have Hall := Lib.hid hall
              have Hbel := Lib.hid hbel
              clear hall
              by_cases hkl : k < nl
              · have k1 : k < xs.length := by omega
                obtain ⟨b, o, q, hb, hc⟩ := (Hx.out.below hbel).at_ (by omega)
                subst q
                obtain ⟨e0, e1, e2, e3⟩ := hc k k1
                have i1 : (0 : Int) ≤ (k : Int) := by omega
                have i2 : (k : Int) < nl := by omega
                obtain ⟨x, hx⟩ : ∃ x, xs[k] = x := ⟨_, rfl⟩
                rw [hx] at e0 e1 e2 e3
                have Hxk := Lib.hid hx
                clear hx hc hbel
                have hN1 : mayL x n = false → false = bb := fun hm => Hno.out fun h => by have := h.may _ (List.getElem_mem k1); rw [Hxk.out, hm] at this; cases this
                have HN1 := Lib.hid hN1
                clear hN1
                have hml : mayL x n = (mayQ x.lv x.lc x.c x.r && (x.lc != 0 || decide (x.lv < n)) && decide (x.r < n)) := rfl
                cases hm : mayQ x.lv x.lc x.c x.r
                · have HN : Hid (false = bb) := Lib.hid (HN1.out (by rw [hml, hm]; rfl))
                  have Hm := Lib.hid hm
                  clear hml hm
                  go_wp2_with fail
                  refine (refMayQ_any x.lv x.lc x.c x.r wr).mono ?_
                  rintro e w1 ⟨rfl, hb1⟩
                  rw [Hm.out]
                  have hb9 := Hbel.out.trans (hb1.mono Hbel.out.size)
                  obtain ⟨_, _, q, _, hc⟩ := (Hx.out.below hb9).at_ (by omega)
                  cases q
                  obtain ⟨e0, e1, e2, e3⟩ := hc k k1
                  rw [Hxk.out] at e0 e1 e2 e3
                  clear hb1 hc
                  go_wp2_with fail
                  go_ret
                  exact ⟨ret_bool HN.out, hb9⟩
                · have Hm := Lib.hid hm
                  by_cases h0 : x.lc = 0
                  · have g0 : (x.lc == 0) = true := by simp [h0]
                    by_cases hv : x.lv < n
                    · have g1 : decide (x.lv ≥ n) = false := by simp; omega
                      by_cases hr : x.r < n
                      · have g2 : decide (x.r ≥ n) = false := by simp; omega
                        have Hy : Hid (mayL x n = true) := Lib.hid (by rw [hml, hm]; simp [hv, hr])
                        clear hml hm hv hr h0
                        go_wp2_with fail
                        refine (refMayQ_any x.lv x.lc x.c x.r wr).mono ?_
                        rintro e w1 ⟨rfl, hb1⟩
                        rw [Hm.out]
                        have hb9 := Hbel.out.trans (hb1.mono Hbel.out.size)
                        obtain ⟨_, _, q, _, hc⟩ := (Hx.out.below hb9).at_ (by omega)
                        cases q
                        obtain ⟨e0, e1, e2, e3⟩ := hc k k1
                        rw [Hxk.out] at e0 e1 e2 e3
                        clear hb1 hc
                        go_wp2_with fail
                        go_roundg (nl - (k + 1))
                        case measure => omega
                        case rel =>
                          refine ⟨k + 1, by omega, rfl, by simp, fun j h1 hj => ?_, hb9⟩
                          rcases Nat.lt_or_ge j k with h | h
                          · exact Hall.out j h1 h
                          · have : j = k := by omega
                            subst this
                            rw [Hxk.out]; exact Hy.out
                      · have g2 : decide (x.r ≥ n) = true := by simp; omega
                        have HN : Hid (false = bb) := Lib.hid (HN1.out (by rw [hml, hm]; simp [hr]))
                        clear hml hm hv hr h0
                        go_wp2_with fail
                        refine (refMayQ_any x.lv x.lc x.c x.r wr).mono ?_
                        rintro e w1 ⟨rfl, hb1⟩
                        rw [Hm.out]
                        have hb9 := Hbel.out.trans (hb1.mono Hbel.out.size)
                        obtain ⟨_, _, q, _, hc⟩ := (Hx.out.below hb9).at_ (by omega)
                        cases q
                        obtain ⟨e0, e1, e2, e3⟩ := hc k k1
                        rw [Hxk.out] at e0 e1 e2 e3
                        clear hb1 hc
                        go_wp2_with fail
                        go_ret
                        exact ⟨ret_bool HN.out, hb9⟩
                    · have g1 : decide (x.lv ≥ n) = true := by simp; omega
                      have HN : Hid (false = bb) := Lib.hid (HN1.out (by rw [hml, hm]; simp [hv, h0]))
                      clear hml hm hv h0
                      go_wp2_with fail
                      refine (refMayQ_any x.lv x.lc x.c x.r wr).mono ?_
                      rintro e w1 ⟨rfl, hb1⟩
                      rw [Hm.out]
                      have hb9 := Hbel.out.trans (hb1.mono Hbel.out.size)
                      obtain ⟨_, _, q, _, hc⟩ := (Hx.out.below hb9).at_ (by omega)
                      cases q
                      obtain ⟨e0, e1, e2, e3⟩ := hc k k1
                      rw [Hxk.out] at e0 e1 e2 e3
                      clear hb1 hc
                      go_wp2_with fail
                      go_ret
                      exact ⟨ret_bool HN.out, hb9⟩
                  · have g0 : (x.lc == 0) = false := by simp [h0]
                    by_cases hr : x.r < n
                    · have g2 : decide (x.r ≥ n) = false := by simp; omega
                      have Hy : Hid (mayL x n = true) := Lib.hid (by rw [hml, hm]; simp [h0, hr])
                      clear hml hm hr h0
                      go_wp2_with fail
                      refine (refMayQ_any x.lv x.lc x.c x.r wr).mono ?_
                      rintro e w1 ⟨rfl, hb1⟩
                      rw [Hm.out]
                      have hb9 := Hbel.out.trans (hb1.mono Hbel.out.size)
                      obtain ⟨_, _, q, _, hc⟩ := (Hx.out.below hb9).at_ (by omega)
                      cases q
                      obtain ⟨e0, e1, e2, e3⟩ := hc k k1
                      rw [Hxk.out] at e0 e1 e2 e3
                      clear hb1 hc
                      go_wp2_with fail
                      go_roundg (nl - (k + 1))
                      case measure => omega
                      case rel =>
                        refine ⟨k + 1, by omega, rfl, by simp, fun j h1 hj => ?_, hb9⟩
                        rcases Nat.lt_or_ge j k with h | h
                        · exact Hall.out j h1 h
                        · have : j = k := by omega
                          subst this
                          rw [Hxk.out]; exact Hy.out
                    · have g2 : decide (x.r ≥ n) = true := by simp; omega
                      have HN : Hid (false = bb) := Lib.hid (HN1.out (by rw [hml, hm]; simp [hr]))
                      clear hml hm hr h0
                      go_wp2_with fail
                      refine (refMayQ_any x.lv x.lc x.c x.r wr).mono ?_
                      rintro e w1 ⟨rfl, hb1⟩
                      rw [Hm.out]
                      have hb9 := Hbel.out.trans (hb1.mono Hbel.out.size)
                      obtain ⟨_, _, q, _, hc⟩ := (Hx.out.below hb9).at_ (by omega)
                      cases q
                      obtain ⟨e0, e1, e2, e3⟩ := hc k k1
                      rw [Hxk.out] at e0 e1 e2 e3
                      clear hb1 hc
                      go_wp2_with fail
                      go_ret
                      exact ⟨ret_bool HN.out, hb9⟩
              · have HY : Hid (true = bb) := Lib.hid (Hyes.out ⟨HN0.out, HLen.out, fun x hx => by
                  obtain ⟨j, hj, rfl⟩ := List.getElem_of_mem hx
                  exact Hall.out j hj (by omega), HR.out⟩)
                clear hbel
                go_wp2_with fail
                go_ret
                exact ⟨ret_bool HY.out, Hbel.out⟩

end Go.Proofs.Ythabkpkgocafoaa
