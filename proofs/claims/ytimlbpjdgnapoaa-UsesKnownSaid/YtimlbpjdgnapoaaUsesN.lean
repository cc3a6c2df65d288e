/- usufructref17.May. -/
import Derived.Test.YtimlbpjdgnapoaaUsesM
namespace Go.Proofs.Ytimlbpjdgnapoaa
set_option linter.unusedVariables false
set_option linter.unusedSimpArgs false
open Go.RowKit

theorem mayFrom_snoc (x : UseD) : ∀ (l : List UseD) (p : Int), mayFrom p (l ++ [x]) = (mayFrom p l && mayS ((l.getLast?.map (·.v)).getD p) x)
  | [], p => by simp [mayFrom]
  | y :: l, p => by
    rw [List.cons_append]
    unfold mayFrom
    rw [mayFrom_snoc x l y.v, Bool.and_assoc]
    congr 3
    cases l with
    | nil => rfl
    | cons z l => rw [List.getLast?_cons_cons]; cases h : (z :: l).getLast? with
      | none => simp at h
      | some u => rfl
theorem mayU_zero (xs : List UseD) (h : 0 < xs.length) : mayU (xs.take 1) = (mayU (xs.take 0) && mayS (-1) xs[0]) := by
  have : xs.take 1 = xs.take 0 ++ [xs[0]] := List.take_succ_eq_append_getElem h
  unfold mayU
  rw [this, mayFrom_snoc]
  rfl
theorem mayU_succ (xs : List UseD) (k : Nat) (h : k + 1 < xs.length) : mayU (xs.take (k + 1 + 1)) = (mayU (xs.take (k + 1)) && mayS xs[k].v xs[k + 1]) := by
  have : xs.take (k + 1 + 1) = xs.take (k + 1) ++ [xs[k + 1]] := List.take_succ_eq_append_getElem h
  unfold mayU
  rw [this, mayFrom_snoc]
  congr 2
  rw [List.take_succ_eq_append_getElem (show k < xs.length by omega), List.getLast?_append]
  rfl

set_option maxRecDepth 100000 in
set_option maxHeartbeats 4000000 in
theorem refMayU_any (A : Option Addr) (n c : Nat) (xs : List UseD) (w : World) (hx : UsesV w w.heap.size A n c xs) :
    Calls Try.prog 12 #[.slice A n c] w fun e w' => e = .returned (.bool (mayU xs)) ∧ Below w.heap.size w w' := by
  have hxl := hx.len
  have n63 : n ≤ 9223372036854775807 := Nat.le_trans hx.2.1 hx.2.2.1
  have Hx := Lib.hid hx
  clear hx
  go_enter Try.func12, Try.ntmps12
  go_wp2_with fail
  go_loopg [3, 4] n (fun gh ok i wr => ∃ (k : Nat) (r : Bool), k ≤ n ∧ gh = n - k ∧ i = .int .i64 k ∧ ok = .bool r ∧ r = mayU (xs.take k) ∧ Below w.heap.size w wr)
  case atStart => exact ⟨0, true, Nat.zero_le _, rfl, rfl, rfl, rfl, Below.refl _ _⟩
  case round =>
    obtain ⟨k, r, hk, rfl, rfl, rfl, hr, hbel⟩ := hrel
    have Hbel := Lib.hid hbel
    by_cases hkn : k < n
    · have d0 : decide (k < n) = true := by simpa using hkn
      have hk' : k < xs.length := by omega
      obtain ⟨b, o, q, hb, hc⟩ := (Hx.out.below hbel).at_ (by omega)
      subst q
      obtain ⟨e0, Ax, nx, cx, e1, e2, e3, hrx⟩ := hc k hk'
      have hprev : ∀ k', k = k' + 1 → ∃ q : Int, wr.cell? ⟨b, o + k' * 4, none⟩ = some (.int .i64 q) ∧ ∀ h : k' < xs.length, xs[k'].v = q := fun k' e => by
        have hk2 : k' < xs.length := by omega
        exact ⟨_, (hc k' hk2).1, fun _ => rfl⟩
      obtain ⟨x, hxk⟩ : ∃ x, xs[k] = x := ⟨_, rfl⟩
      rw [hxk] at e0 e1 e2 hrx
      obtain ⟨xv, ⟨nv, tc, vs⟩⟩ := x
      dsimp only at e0 e1 e2 hrx
      replace e2 : wr.cell? ⟨b, o + k * 4 + 2, none⟩ = some (.int .u8 tc) := e2
      replace e3 : wr.cell? ⟨b, o + k * 4 + 3, none⟩ = some (.slice Ax nx cx) := e3
      have Hq : Hid (TermV wr wr.heap.size (.agg #[.bool nv, .int .u8 tc, .slice Ax nx cx]) ⟨nv, tc, vs⟩) := Lib.hid ⟨Ax, nx, cx, rfl, hrx.more hbel.size⟩
      have hq : ∀ d os, Calls Try.prog 29 #[.agg #[.bool nv, .int .u8 tc, .slice Ax nx cx]] («Sort».grow (redrawn wr d) os) (fun e w' => e = .returned (.bool (mayB ⟨nv, tc, vs⟩)) ∧ Below («Sort».grow (redrawn wr d) os).heap.size («Sort».grow (redrawn wr d) os) w') := fun d os =>
        refMay_t _ ⟨nv, tc, vs⟩ _ _ ((Hq.out.below (below_regrown wr d os)).more (below_regrown wr d os).size) (Nat.le_refl _)
      replace hq := Lib.hid hq
      have hsm : ∀ p, mayS p ⟨xv, ⟨nv, tc, vs⟩⟩ = (decide (0 ≤ xv) && decide (xv < 1048576) && decide (p < xv) && !nv && mayB ⟨nv, tc, vs⟩) := fun _ => rfl
      have i1 : (0 : Int) ≤ (k : Int) := by omega
      have i2 : (k : Int) < n := by omega
      have hst : ∃ p, mayU (xs.take (k + 1)) = (mayU (xs.take k) && mayS p ⟨xv, ⟨nv, tc, vs⟩⟩) ∧ (k = 0 → p = -1) ∧ ∀ k' (h : k' < xs.length), k = k' + 1 → p = xs[k'].v := by
        cases k with
        | zero => exact ⟨-1, by rw [← hxk]; exact mayU_zero xs hk', fun _ => rfl, fun k' _ h => absurd h (by omega)⟩
        | succ k' => exact ⟨xs[k'].v, by rw [← hxk]; exact mayU_succ xs k' hk', fun h => absurd h (by omega), fun k2 _ h => (by obtain rfl : k2 = k' := (by omega); rfl)⟩
      obtain ⟨p, hst, hp0, hp1⟩ := hst
      rw [← hr] at hst
      have Hst := Lib.hid hst
      have Hp0 := Lib.hid hp0
      have Hp1 := Lib.hid hp1
      have Hprev := Lib.hid hprev
      clear hc hrx hxk hst hp0 hp1 hprev hr hbel Hq
      have ke1 := fun d os => cell_regrown e1 d os
      have ke2 := fun d os => cell_regrown e2 d os
      have ke3 := fun d os => cell_regrown e3 d os
      cases r with
      | false =>
        have Hfin : Hid (false = mayU (xs.take (k + 1))) := Lib.hid (by rw [Hst.out]; rfl)
        go_wp2_with fail
        have ke0 := fun d os => cell_regrown e0 d os
        clear e0 e1 e2 e3 hsm Hst
        refine wp_region_quiet_below (by kernel_rfl) (by kernel_rfl) ?_
        repeat (go_big_quiet_step ((first | (go_at_call 29; exact Calls.regrown_of (hq.out _ _)))))
        refine wpQuiet_nil ?_
        intro _ hw'
        obtain ⟨⟨dq, osq⟩, hw''⟩ := hw'
        subst hw''
        have Hb2 := Lib.hid (Hbel.out.trans ((below_regrown wr dq osq).mono Hbel.out.size))
        clear ke0 ke1 ke2 ke3 hq
        go_wp2_with fail
        go_roundg (n - (k + 1))
        case measure => omega
        case rel => exact ⟨k + 1, false, by omega, rfl, by go_num, rfl, Hfin.out, Hb2.out⟩
      | true =>
        cases k with
        | zero =>
          obtain rfl : p = -1 := Hp0.out rfl
          simp only [Nat.zero_mul, Nat.add_zero] at e0 e1 e2 e3 ke1 ke2 ke3
          go_wp2_with fail
          have ke0 := fun d os => cell_regrown e0 d os
          clear e0 e1 e2 e3
          by_cases hv0 : 0 ≤ xv
          · have f1 : decide (xv ≥ 0) = true := by simp; omega
            by_cases hv1 : xv < 1048576
            · have f2 : decide (xv < 1048576) = true := by simp; omega
              have hpx : -1 < xv := by omega
              cases nv with
              | true =>
                have Hfin : Hid (false = mayU (xs.take (0 + 1))) := Lib.hid (by rw [Hst.out, hsm]; simp)
                clear hsm
                refine wp_region_quiet_below (by kernel_rfl) (by kernel_rfl) ?_
                repeat (go_big_quiet_step ((first | (go_at_call 29; exact Calls.regrown_of (hq.out _ _)))))
                refine wpQuiet_nil ?_
                intro _ hw'
                obtain ⟨⟨dq, osq⟩, hw''⟩ := hw'
                subst hw''
                have Hb2 := Lib.hid (Hbel.out.trans ((below_regrown wr dq osq).mono Hbel.out.size))
                clear ke0 ke1 ke2 ke3 hq
                go_wp2_with fail
                go_roundg (n - (0 + 1))
                case measure => omega
                case rel => exact ⟨0 + 1, false, by omega, rfl, by go_num, rfl, Hfin.out, Hb2.out⟩
              | false =>
                cases hm : mayB ⟨false, tc, vs⟩ with
                | false =>
                  have Hfin : Hid (false = mayU (xs.take (0 + 1))) := Lib.hid (by rw [Hst.out, hsm, hm]; simp)
                  rw [hm] at hq
                  clear hsm hm
                  refine wp_region_quiet_below (by kernel_rfl) (by kernel_rfl) ?_
                  repeat (go_big_quiet_step ((first | (go_at_call 29; exact Calls.regrown_of (hq.out _ _)))))
                  refine wpQuiet_nil ?_
                  intro _ hw'
                  obtain ⟨⟨dq, osq⟩, hw''⟩ := hw'
                  subst hw''
                  have Hb2 := Lib.hid (Hbel.out.trans ((below_regrown wr dq osq).mono Hbel.out.size))
                  clear ke0 ke1 ke2 ke3 hq
                  go_wp2_with fail
                  go_roundg (n - (0 + 1))
                  case measure => omega
                  case rel => exact ⟨0 + 1, false, by omega, rfl, by go_num, rfl, Hfin.out, Hb2.out⟩
                | true =>
                  have Hfin : Hid (true = mayU (xs.take (0 + 1))) := Lib.hid (by rw [Hst.out, hsm, hm]; simp [hv0, hv1, hpx])
                  rw [hm] at hq
                  clear hsm hm
                  refine wp_region_quiet_below (by kernel_rfl) (by kernel_rfl) ?_
                  repeat (go_big_quiet_step ((first | (go_at_call 29; exact Calls.regrown_of (hq.out _ _)))))
                  refine wpQuiet_nil ?_
                  intro _ hw'
                  obtain ⟨⟨dq, osq⟩, hw''⟩ := hw'
                  subst hw''
                  have Hb2 := Lib.hid (Hbel.out.trans ((below_regrown wr dq osq).mono Hbel.out.size))
                  clear ke0 ke1 ke2 ke3 hq
                  go_wp2_with fail
                  go_roundg (n - (0 + 1))
                  case measure => omega
                  case rel => exact ⟨0 + 1, true, by omega, rfl, by go_num, rfl, Hfin.out, Hb2.out⟩
            · have f2 : decide (xv < 1048576) = false := by simp; omega
              have Hfin : Hid (false = mayU (xs.take (0 + 1))) := Lib.hid (by rw [Hst.out, hsm]; simp [hv1])
              clear hsm
              refine wp_region_quiet_below (by kernel_rfl) (by kernel_rfl) ?_
              repeat (go_big_quiet_step ((first | (go_at_call 29; exact Calls.regrown_of (hq.out _ _)))))
              refine wpQuiet_nil ?_
              intro _ hw'
              obtain ⟨⟨dq, osq⟩, hw''⟩ := hw'
              subst hw''
              have Hb2 := Lib.hid (Hbel.out.trans ((below_regrown wr dq osq).mono Hbel.out.size))
              clear ke0 ke1 ke2 ke3 hq
              go_wp2_with fail
              go_roundg (n - (0 + 1))
              case measure => omega
              case rel => exact ⟨0 + 1, false, by omega, rfl, by go_num, rfl, Hfin.out, Hb2.out⟩
          · have f1 : decide (xv ≥ 0) = false := by simp; omega
            have Hfin : Hid (false = mayU (xs.take (0 + 1))) := Lib.hid (by rw [Hst.out, hsm]; simp [hv0])
            clear hsm
            refine wp_region_quiet_below (by kernel_rfl) (by kernel_rfl) ?_
            repeat (go_big_quiet_step ((first | (go_at_call 29; exact Calls.regrown_of (hq.out _ _)))))
            refine wpQuiet_nil ?_
            intro _ hw'
            obtain ⟨⟨dq, osq⟩, hw''⟩ := hw'
            subst hw''
            have Hb2 := Lib.hid (Hbel.out.trans ((below_regrown wr dq osq).mono Hbel.out.size))
            clear ke0 ke1 ke2 ke3 hq
            go_wp2_with fail
            go_roundg (n - (0 + 1))
            case measure => omega
            case rel => exact ⟨0 + 1, false, by omega, rfl, by go_num, rfl, Hfin.out, Hb2.out⟩
        | succ k' =>
          obtain ⟨q, hq0, hpq⟩ := Hprev.out k' rfl
          have hpe : p = q := (Hp1.out k' (by omega) rfl).trans (hpq (by omega))
          subst hpe
          have g1 : ((k' : Int) + 1 == 0) = false := by simp; omega
          have i4 : (0 : Int) ≤ (k' : Int) + 1 := by omega
          have i5 : (k' : Int) + 1 < n := by omega
          have i6 : (0 : Int) ≤ (k' : Int) := by omega
          have i7 : (k' : Int) < n := by omega
          go_wp2_with fail
          have ke0 := fun d os => cell_regrown e0 d os
          have kp0 := fun d os => cell_regrown hq0 d os
          clear e0 e1 e2 e3 hq0 hpq
          by_cases hv0 : 0 ≤ xv
          · have f1 : decide (xv ≥ 0) = true := by simp; omega
            by_cases hv1 : xv < 1048576
            · have f2 : decide (xv < 1048576) = true := by simp; omega
              by_cases hpx : p < xv
              · have f3 : decide (xv > p) = true := by simpa using hpx
                cases nv with
                | true =>
                  have Hfin : Hid (false = mayU (xs.take ((k' + 1) + 1))) := Lib.hid (by rw [Hst.out, hsm]; simp)
                  clear hsm
                  refine wp_region_quiet_below (by kernel_rfl) (by kernel_rfl) ?_
                  repeat (go_big_quiet_step ((first | (go_at_call 29; exact Calls.regrown_of (hq.out _ _)))))
                  refine wpQuiet_nil ?_
                  intro _ hw'
                  obtain ⟨⟨dq, osq⟩, hw''⟩ := hw'
                  subst hw''
                  have Hb2 := Lib.hid (Hbel.out.trans ((below_regrown wr dq osq).mono Hbel.out.size))
                  clear ke0 ke1 ke2 ke3 hq
                  go_wp2_with fail
                  go_roundg (n - ((k' + 1) + 1))
                  case measure => omega
                  case rel => exact ⟨(k' + 1) + 1, false, by omega, rfl, by go_num, rfl, Hfin.out, Hb2.out⟩
                | false =>
                  cases hm : mayB ⟨false, tc, vs⟩ with
                  | false =>
                    have Hfin : Hid (false = mayU (xs.take ((k' + 1) + 1))) := Lib.hid (by rw [Hst.out, hsm, hm]; simp)
                    rw [hm] at hq
                    clear hsm hm
                    refine wp_region_quiet_below (by kernel_rfl) (by kernel_rfl) ?_
                    repeat (go_big_quiet_step ((first | (go_at_call 29; exact Calls.regrown_of (hq.out _ _)))))
                    refine wpQuiet_nil ?_
                    intro _ hw'
                    obtain ⟨⟨dq, osq⟩, hw''⟩ := hw'
                    subst hw''
                    have Hb2 := Lib.hid (Hbel.out.trans ((below_regrown wr dq osq).mono Hbel.out.size))
                    clear ke0 ke1 ke2 ke3 hq
                    go_wp2_with fail
                    go_roundg (n - ((k' + 1) + 1))
                    case measure => omega
                    case rel => exact ⟨(k' + 1) + 1, false, by omega, rfl, by go_num, rfl, Hfin.out, Hb2.out⟩
                  | true =>
                    have Hfin : Hid (true = mayU (xs.take ((k' + 1) + 1))) := Lib.hid (by rw [Hst.out, hsm, hm]; simp [hv0, hv1, hpx])
                    rw [hm] at hq
                    clear hsm hm
                    refine wp_region_quiet_below (by kernel_rfl) (by kernel_rfl) ?_
                    repeat (go_big_quiet_step ((first | (go_at_call 29; exact Calls.regrown_of (hq.out _ _)))))
                    refine wpQuiet_nil ?_
                    intro _ hw'
                    obtain ⟨⟨dq, osq⟩, hw''⟩ := hw'
                    subst hw''
                    have Hb2 := Lib.hid (Hbel.out.trans ((below_regrown wr dq osq).mono Hbel.out.size))
                    clear ke0 ke1 ke2 ke3 hq
                    go_wp2_with fail
                    go_roundg (n - ((k' + 1) + 1))
                    case measure => omega
                    case rel => exact ⟨(k' + 1) + 1, true, by omega, rfl, by go_num, rfl, Hfin.out, Hb2.out⟩
              · have f3 : decide (xv > p) = false := by simpa using hpx
                have Hfin : Hid (false = mayU (xs.take (k' + 1 + 1))) := Lib.hid (by rw [Hst.out, hsm]; simp [hpx])
                clear hsm
                refine wp_region_quiet_below (by kernel_rfl) (by kernel_rfl) ?_
                repeat (go_big_quiet_step ((first | (go_at_call 29; exact Calls.regrown_of (hq.out _ _)))))
                refine wpQuiet_nil ?_
                intro _ hw'
                obtain ⟨⟨dq, osq⟩, hw''⟩ := hw'
                subst hw''
                have Hb2 := Lib.hid (Hbel.out.trans ((below_regrown wr dq osq).mono Hbel.out.size))
                clear ke0 ke1 ke2 ke3 hq
                go_wp2_with fail
                go_roundg (n - ((k' + 1) + 1))
                case measure => omega
                case rel => exact ⟨(k' + 1) + 1, false, by omega, rfl, by go_num, rfl, Hfin.out, Hb2.out⟩
            · have f2 : decide (xv < 1048576) = false := by simp; omega
              have Hfin : Hid (false = mayU (xs.take (k' + 1 + 1))) := Lib.hid (by rw [Hst.out, hsm]; simp [hv1])
              clear hsm
              refine wp_region_quiet_below (by kernel_rfl) (by kernel_rfl) ?_
              repeat (go_big_quiet_step ((first | (go_at_call 29; exact Calls.regrown_of (hq.out _ _)))))
              refine wpQuiet_nil ?_
              intro _ hw'
              obtain ⟨⟨dq, osq⟩, hw''⟩ := hw'
              subst hw''
              have Hb2 := Lib.hid (Hbel.out.trans ((below_regrown wr dq osq).mono Hbel.out.size))
              clear ke0 ke1 ke2 ke3 hq
              go_wp2_with fail
              go_roundg (n - ((k' + 1) + 1))
              case measure => omega
              case rel => exact ⟨(k' + 1) + 1, false, by omega, rfl, by go_num, rfl, Hfin.out, Hb2.out⟩
          · have f1 : decide (xv ≥ 0) = false := by simp; omega
            have Hfin : Hid (false = mayU (xs.take (k' + 1 + 1))) := Lib.hid (by rw [Hst.out, hsm]; simp [hv0])
            clear hsm
            refine wp_region_quiet_below (by kernel_rfl) (by kernel_rfl) ?_
            repeat (go_big_quiet_step ((first | (go_at_call 29; exact Calls.regrown_of (hq.out _ _)))))
            refine wpQuiet_nil ?_
            intro _ hw'
            obtain ⟨⟨dq, osq⟩, hw''⟩ := hw'
            subst hw''
            have Hb2 := Lib.hid (Hbel.out.trans ((below_regrown wr dq osq).mono Hbel.out.size))
            clear ke0 ke1 ke2 ke3 hq
            go_wp2_with fail
            go_roundg (n - ((k' + 1) + 1))
            case measure => omega
            case rel => exact ⟨(k' + 1) + 1, false, by omega, rfl, by go_num, rfl, Hfin.out, Hb2.out⟩
    · have d0 : decide (k < n) = false := by simpa using hkn
      rw [List.take_of_length_le (by omega)] at hr
      have HR := Lib.hid hr
      clear hr
      go_wp2_with fail
      go_ret
      exact ⟨ret_bool HR.out, Hbel.out⟩

end Go.Proofs.Ytimlbpjdgnapoaa
