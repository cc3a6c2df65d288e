/- usufructref17: Has, Same, May. -/
import Derived.Test.YtimlbpjdgnapoaaUsesL
import Derived.Test.YtimlbpjdgnapoaaRefX
import Derived.Test.YtimlbpjdgnapoaaRefS
import Derived.BigQuiet
import Derived.Lib.QuietBelow
import Derived.Deep.QuietTactic
namespace Go.Proofs.Ytimlbpjdgnapoaa
set_option linter.unusedVariables false
set_option linter.unusedSimpArgs false
open Go.RowKit

set_option maxHeartbeats 1000000 in
theorem hasU_any (v : Int) (A : Option Addr) (n c : Nat) (xs : List UseD) (w : World) (hx : UsesV w w.heap.size A n c xs) :
    Calls Try.prog 33 #[.slice A n c, .int .i64 v] w fun e w' => e = .returned (.bool ((allVs xs).contains v)) ∧ w = w' := by
  have hxl := hx.len
  have n63 : n ≤ 9223372036854775807 := Nat.le_trans hx.2.1 hx.2.2.1
  have Hx := Lib.hid hx
  clear hx
  obtain ⟨r, hr⟩ : ∃ r, (allVs xs).contains v = r := ⟨_, rfl⟩
  rw [hr]
  have HR := Lib.hid hr
  clear hr
  go_enter Try.func33, Try.ntmps33
  go_wp2_with fail
  go_loopg [5] n (fun gh i wr => ∃ k : Nat, k ≤ n ∧ gh = n - k ∧ i = .int .i64 k ∧ (∀ j (h : j < xs.length), j < k → v ∉ xs[j].t.vars) ∧ w = wr)
  case atStart => exact ⟨0, Nat.zero_le _, rfl, rfl, fun j _ h => absurd h (by omega), rfl⟩
  case round =>
    obtain ⟨k, hk, rfl, rfl, hno, rfl⟩ := hrel
    have Hno := Lib.hid hno
    clear hno
    by_cases hkn : k < n
    · have d0 : decide (k < n) = true := by simpa using hkn
      obtain ⟨b, o, q, hb, hc⟩ := Hx.out.at_ (by omega)
      subst q
      have hk' : k < xs.length := by omega
      obtain ⟨e0, Ax, nx, cx, e1, e2, e3, hrx⟩ := hc k hk'
      obtain ⟨x, hxk⟩ : ∃ x, xs[k] = x := ⟨_, rfl⟩
      rw [hxk] at hrx
      replace e3 : w.cell? ⟨b, o + k * 4 + 3, none⟩ = some (.slice Ax nx cx) := e3
      have nx63 : nx ≤ 9223372036854775807 := Nat.le_trans hrx.2.1 hrx.2.2
      have hxlen := hrx.len
      have Hrx := Lib.hid hrx
      have Hxk := Lib.hid hxk
      have k1 : (0 : Int) ≤ (k : Int) := by omega
      have k2 : (k : Int) < n := by omega
      clear hc hrx hxk e0 e1 e2
      go_wp2_with fail
      go_loopg [6] nx (fun gh i wr => ∃ j : Nat, j ≤ nx ∧ gh = nx - j ∧ i = .int .i64 j ∧ (∀ q (h : q < x.t.vars.length), q < j → x.t.vars[q] ≠ v) ∧ w = wr)
      case atStart => exact ⟨0, Nat.zero_le _, rfl, rfl, fun q _ h => absurd h (by omega), rfl⟩
      case round =>
        obtain ⟨j, hj, rfl, rfl, hnj, rfl⟩ := hrel
        have Hnj := Lib.hid hnj
        clear hnj
        by_cases hjn : j < nx
        · have d1 : decide (j < nx) = true := by simpa using hjn
          obtain ⟨b2, o2, q2, hb2, hc2⟩ := Hrx.out.at_ (by omega)
          subst q2
          have hj' : j < x.t.vars.length := by omega
          have v0 := hc2 j hj'
          have j1 : (0 : Int) ≤ (j : Int) := by omega
          have j2 : (j : Int) < nx := by omega
          clear hc2
          by_cases hv : x.t.vars[j] = v
          · have d2 : (x.t.vars[j] == v) = true := by simp [hv]
            have hre : r = true := by
              rw [← HR.out]
              rw [List.contains_iff_mem]
              exact List.mem_flatMap.2 ⟨x, by rw [← Hxk.out]; exact List.getElem_mem hk', by rw [← hv]; exact List.getElem_mem hj'⟩
            subst hre
            clear HR hv Hnj Hno
            go_wp2_with fail
            go_ret
            exact ⟨rfl, rfl⟩
          · have d2 : (x.t.vars[j] == v) = false := by simp [hv]
            have hnj2 : ∀ q (h : q < x.t.vars.length), q < j + 1 → x.t.vars[q] ≠ v := fun q h hq => by
              rcases Nat.lt_or_ge q j with h' | h'
              · exact Hnj.out q h h'
              · have : q = j := by omega
                subst this
                exact hv
            have Hnj2 := Lib.hid hnj2
            clear hnj2 Hnj hv
            go_wp2_with fail
            go_roundg (nx - (j + 1))
            case measure => omega
            case rel => exact ⟨j + 1, by omega, rfl, by go_num, Hnj2.out, rfl⟩
        · have d1 : decide (j < nx) = false := by simpa using hjn
          have hno2 : ∀ j (h : j < xs.length), j < k + 1 → v ∉ xs[j].t.vars := fun q h hq => by
            rcases Nat.lt_or_ge q k with h' | h'
            · exact Hno.out q h h'
            · have : q = k := by omega
              subst this
              rw [Hxk.out]
              intro hin
              obtain ⟨z, hz, e⟩ := List.getElem_of_mem hin
              exact Hnj.out z hz (by omega) e
          have Hno2 := Lib.hid hno2
          clear hno2 Hno Hnj
          go_wp2_with fail
          go_roundg (n - (k + 1))
          case measure => omega
          case rel => exact ⟨k + 1, by omega, rfl, by go_num, Hno2.out, rfl⟩
    · have d0 : decide (k < n) = false := by simpa using hkn
      have hre : r = false := by
        rw [← HR.out, Bool.eq_false_iff]
        intro h
        rw [List.contains_iff_mem] at h
        obtain ⟨x, hx, hv⟩ := List.mem_flatMap.1 h
        obtain ⟨j, hj, rfl⟩ := List.getElem_of_mem hx
        exact Hno.out j hj (by omega) hv
      subst hre
      clear HR Hno
      go_wp2_with fail
      go_ret
      exact ⟨rfl, rfl⟩

set_option maxRecDepth 100000 in
set_option maxHeartbeats 2000000 in
theorem refSameU_any (A : Option Addr) (n c : Nat) (xs : List UseD) (A' : Option Addr) (n' c' : Nat) (ys : List UseD) (w : World) (hx : UsesV w w.heap.size A n c xs) (hy : UsesV w w.heap.size A' n' c' ys) :
    Calls Try.prog 15 #[.slice A n c, .slice A' n' c'] w fun e w' => e = .returned (.bool (decide (xs = ys))) ∧ Below w.heap.size w w' := by
  have hxl := hx.len
  have hyl := hy.len
  have n63 : n ≤ 9223372036854775807 := Nat.le_trans hx.2.1 hx.2.2.1
  have Hx := Lib.hid hx
  have Hy := Lib.hid hy
  clear hx hy
  obtain ⟨r, hr⟩ : ∃ r, decide (xs = ys) = r := ⟨_, rfl⟩
  rw [hr]
  have HR := Lib.hid hr
  clear hr
  by_cases hne : n = n'
  · subst hne
    have d0 : ((n : Int) != n) = false := by simp
    go_enter Try.func15, Try.ntmps15
    go_wp2_with fail
    go_loopg [5] n (fun gh i wr => ∃ k : Nat, k ≤ n ∧ gh = n - k ∧ i = .int .i64 k ∧ (∀ j (h1 : j < xs.length) (h2 : j < ys.length), j < k → xs[j] = ys[j]) ∧ Below w.heap.size w wr)
    case atStart => exact ⟨0, Nat.zero_le _, rfl, rfl, fun j _ _ h => absurd h (by omega), Below.refl _ _⟩
    case round =>
      obtain ⟨k, hk, rfl, rfl, heq, hbel⟩ := hrel
      have Heq := Lib.hid heq
      have Hbel := Lib.hid hbel
      clear heq
      by_cases hlt : k < n
      · have d1 : decide (k < n) = true := by simpa using hlt
        obtain ⟨b, o, q, hb, hc⟩ := (Hx.out.below hbel).at_ (by omega)
        subst q
        obtain ⟨b', o', q', hb', hc'⟩ := (Hy.out.below hbel).at_ (by omega)
        subst q'
        have hk1 : k < xs.length := by omega
        have hk2 : k < ys.length := by omega
        obtain ⟨e0, Ax, nx, cx, e1, e2, e3, hrx⟩ := hc k hk1
        obtain ⟨f0, Ay, ny, cy, f1, f2, f3, hry⟩ := hc' k hk2
        have Hno : Hid (xs[k] ≠ ys[k] → r = false) := Lib.hid fun h => by
          rw [← HR.out, decide_eq_false_iff_not]
          intro e
          exact h (by subst e; rfl)
        have Hyes : Hid (xs[k] = ys[k] → ∀ j (h1 : j < xs.length) (h2 : j < ys.length), j < k + 1 → xs[j] = ys[j]) := Lib.hid fun h j h1 h2 hj => by
          rcases Nat.lt_or_ge j k with h' | h'
          · exact Heq.out j h1 h2 h'
          · have : j = k := by omega
            subst this
            exact h
        obtain ⟨x, hxk⟩ : ∃ x, xs[k] = x := ⟨_, rfl⟩
        obtain ⟨y, hyk⟩ : ∃ y, ys[k] = y := ⟨_, rfl⟩
        rw [hxk] at e0 e1 e2 hrx
        rw [hyk] at f0 f1 f2 hry
        rw [hxk, hyk] at Hno Hyes
        replace e2 : wr.cell? ⟨b, o + k * 4 + 2, none⟩ = some (.int .u8 x.t.c) := e2
        replace e3 : wr.cell? ⟨b, o + k * 4 + 3, none⟩ = some (.slice Ax nx cx) := e3
        replace f2 : wr.cell? ⟨b', o' + k * 4 + 2, none⟩ = some (.int .u8 y.t.c) := f2
        replace f3 : wr.cell? ⟨b', o' + k * 4 + 3, none⟩ = some (.slice Ay ny cy) := f3
        have k1 : (0 : Int) ≤ (k : Int) := by omega
        have k2 : (k : Int) < n := by omega
        have Hrx := Lib.hid (hrx.more hbel.size)
        have Hry := Lib.hid (hry.more hbel.size)
        clear hc hc' hrx hry hxk hyk hbel Heq
        obtain ⟨xv, ⟨xn, xc, xs'⟩⟩ := x
        obtain ⟨yv, ⟨yn, yc, ys'⟩⟩ := y
        dsimp only at e0 e1 e2 f0 f1 f2 Hrx Hry
        go_wp2_with fail
        have ke0 := fun d os => cell_regrown e0 d os
        have kf0 := fun d os => cell_regrown f0 d os
        have ke1 := fun d os => cell_regrown e1 d os
        have kf1 := fun d os => cell_regrown f1 d os
        have ke2 := fun d os => cell_regrown e2 d os
        have kf2 := fun d os => cell_regrown f2 d os
        have ke3 := fun d os => cell_regrown e3 d os
        have kf3 := fun d os => cell_regrown f3 d os
        clear e0 e1 e2 e3 f0 f1 f2 f3
        have hq : ∀ d os, Calls Try.prog 25 #[.agg #[.bool xn, .int .u8 xc, .slice Ax nx cx], .agg #[.bool yn, .int .u8 yc, .slice Ay ny cy]] («Sort».grow (redrawn wr d) os) (fun e w' => e = .returned (.bool (sameB ⟨xn, xc, xs'⟩ ⟨yn, yc, ys'⟩)) ∧ Below («Sort».grow (redrawn wr d) os).heap.size («Sort».grow (redrawn wr d) os) w') := fun d os =>
          refSame_any _ _ ⟨xn, xc, xs'⟩ ⟨yn, yc, ys'⟩ _ wr.heap.size wr.heap.size ⟨Ax, nx, cx, rfl, Hrx.out.below (below_regrown wr d os)⟩ ⟨Ay, ny, cy, rfl, Hry.out.below (below_regrown wr d os)⟩ (below_regrown wr d os).size (below_regrown wr d os).size
        replace hq := Lib.hid hq
        by_cases hv : xv = yv
        · subst hv
          have d2 : (xv != xv) = false := by simp
          cases hs : sameB ⟨xn, xc, xs'⟩ ⟨yn, yc, ys'⟩ with
          | true =>
            rw [hs] at hq
            have hxy := (sameB_iff _ _).1 hs
            have Hst := Lib.hid (Hyes.out (by rw [hxy]))
            clear hs hxy Hyes Hno
            refine wp_region_quiet_below (by kernel_rfl) (by kernel_rfl) ?_
            repeat (go_big_quiet_step ((first | (go_at_call 25; exact Calls.regrown_of (hq.out _ _)))))
            refine wpQuiet_nil ?_
            intro _ hw'
            obtain ⟨⟨dq, osq⟩, hw''⟩ := hw'
            subst hw''
            have Hb2 := Lib.hid (Hbel.out.trans ((below_regrown wr dq osq).mono Hbel.out.size))
            clear ke0 ke1 ke2 ke3 kf0 kf1 kf2 kf3 hq
            go_wp2_with fail
            go_roundg (n - (k + 1))
            case measure => omega
            case rel => exact ⟨k + 1, by omega, rfl, by go_num, Hst.out, Hb2.out⟩
          | false =>
            rw [hs] at hq
            have hre : r = false := Hno.out (fun e => by
              injection e with _ e
              rw [e, (sameB_iff _ _).2 rfl] at hs
              cases hs)
            subst hre
            clear hs Hyes Hno HR
            refine wp_region_quiet_below (by kernel_rfl) (by kernel_rfl) ?_
            repeat (go_big_quiet_step ((first | (go_at_call 25; exact Calls.regrown_of (hq.out _ _)))))
            refine wpQuiet_nil ?_
            intro _ hw'
            obtain ⟨⟨dq, osq⟩, hw''⟩ := hw'
            subst hw''
            have Hb2 := Lib.hid (Hbel.out.trans ((below_regrown wr dq osq).mono Hbel.out.size))
            clear ke0 ke1 ke2 ke3 kf0 kf1 kf2 kf3 hq
            go_wp2_with fail
            go_ret
            exact ⟨rfl, Hb2.out⟩
        · have d2 : (xv != yv) = true := by simp [hv]
          have hre : r = false := Hno.out (fun e => hv (by injection e))
          subst hre
          clear Hyes Hno HR hv
          refine wp_region_quiet_below (by kernel_rfl) (by kernel_rfl) ?_
          repeat (go_big_quiet_step ((first | (go_at_call 25; exact Calls.regrown_of (hq.out _ _)))))
          refine wpQuiet_nil ?_
          intro _ hw'
          obtain ⟨⟨dq, osq⟩, hw''⟩ := hw'
          subst hw''
          have Hb2 := Lib.hid (Hbel.out.trans ((below_regrown wr dq osq).mono Hbel.out.size))
          clear ke0 ke1 ke2 ke3 kf0 kf1 kf2 kf3 hq
          go_wp2_with fail
          go_ret
          exact ⟨rfl, Hb2.out⟩
      · have d1 : decide (k < n) = false := by simpa using hlt
        have hre : r = true := by
          rw [← HR.out, decide_eq_true_iff]
          exact List.ext_getElem (by omega) fun j h1 h2 => Heq.out j h1 h2 (by omega)
        subst hre
        clear Heq hbel HR
        go_wp2_with fail
        go_ret
        exact ⟨rfl, Hbel.out⟩
  · have d0 : ((n : Int) != n') = true := by simp; omega
    have hre : r = false := by
      rw [← HR.out, decide_eq_false_iff_not]
      intro e
      rw [e] at hxl
      omega
    subst hre
    clear HR
    go_enter Try.func15, Try.ntmps15
    go_wp2_with fail
    go_ret
    exact ⟨rfl, Below.refl _ _⟩

end Go.Proofs.Ytimlbpjdgnapoaa
