/- The contracts of usufructref02.At, May. -/
import Derived.Test.YtimlbpjdgnapoaaRefDef
import Derived.Test.YtimlbpjdgnapoaaMem
import Derived.Deep.QuietTactic
import Derived.BigQuiet
import Derived.IntWalk
namespace Go.Proofs.Ytimlbpjdgnapoaa
set_option linter.unusedVariables false
set_option linter.unusedSimpArgs false
open Go.RowKit



def may0 (t : TermD) : Bool := oneB t.c && !(t.c == 3 && !t.vars.isEmpty)
theorem mayB_false (c : Int) (l : List Int) : mayB ⟨false, c, l⟩ = (may0 ⟨false, c, l⟩ && varsB l l.length) := rfl

set_option maxHeartbeats 2000000 in
theorem refMay_t (v : Value) (t : TermD) (w : World) (B : Nat) (hv : TermV w B v t) (hB : B ≤ w.heap.size) :
    Calls Try.prog 29 #[v] w fun e w' => e = .returned (.bool (mayB t)) ∧ Below w.heap.size w w' := by
  obtain ⟨A, n, c, rfl, hr⟩ := hv
  obtain ⟨tn, tc, tv⟩ := t
  have hl := hr.len
  have hn63 : n ≤ 9223372036854775807 := Nat.le_trans hr.2.1 hr.2.2
  have hbel := below_box (w := w) (Obj.cells #[.bool tn, .int .u8 tc, .slice A n c] 37)
  have hr1 := (hr.more hB).below hbel
  have hself := blk_new w #[.bool tn, .int .u8 tc, .slice A n c] 37
  have hempty : tv.isEmpty = decide (n = 0) := by
    cases tv with
    | nil => simp at hl; simp [← hl]
    | cons x r => simp at hl; simp; omega
  have Hl := Lib.hid hl
  clear hl hr
  cases tn
  · have H0 : Hid (may0 ⟨false, tc, tv⟩ = (decide (1 ≤ tc) && decide (tc ≤ 3) && (!(tc == 3) || decide (n = 0)))) := by
      show _ = _
      simp only [may0, oneB, hempty, Bool.not_and, Bool.not_not]
    clear hempty
    obtain ⟨b0, hb0⟩ : ∃ b, (decide (1 ≤ tc) && decide (tc ≤ 3) && (!(tc == 3) || decide (n = 0))) = b := ⟨_, rfl⟩
    have H0' : Hid (may0 ⟨false, tc, tv⟩ = b0) := by show _ = _; rw [H0.out, hb0]
    clear H0
    have hways : (decide (1 ≤ tc) = false ∧ b0 = false) ∨ (decide (1 ≤ tc) = true ∧ decide (tc ≤ 3) = false ∧ b0 = false) ∨ (decide (1 ≤ tc) = true ∧ decide (tc ≤ 3) = true ∧ (tc != 3) = true ∧ b0 = true) ∨
        (decide (1 ≤ tc) = true ∧ decide (tc ≤ 3) = true ∧ (tc != 3) = false ∧ ((n : Int) == 0) = true ∧ b0 = true) ∨ (decide (1 ≤ tc) = true ∧ decide (tc ≤ 3) = true ∧ (tc != 3) = false ∧ ((n : Int) == 0) = false ∧ b0 = false) := by
      subst hb0
      by_cases h1 : 1 ≤ tc
      · by_cases h2 : tc ≤ 3
        · by_cases h3 : tc = 3
          · by_cases h4 : n = 0
            · subst h3; subst h4; simp
            · subst h3; simp [h4]
          · simp [h1, h2, h3]
        · simp [h1, h2]
      · simp [h1]
    clear hb0
    rcases hways with ⟨d1, rfl⟩ | ⟨d1, d2, rfl⟩ | ⟨d1, d2, d3, rfl⟩ | ⟨d1, d2, d3, d4, rfl⟩ | ⟨d1, d2, d3, d4, rfl⟩
    ·
      go_enter Try.func29, Try.ntmps29
      go_wp2_with fail
      generalize w.alloc (Obj.cells #[.bool false, .int .u8 tc, .slice A n c] 37) = W at hbel hr1 hself ⊢
      have c2 : W.cell? ⟨w.heap.size, 2, none⟩ = some (.slice A n c) := hself.cell 2
      have Hr := Lib.hid hr1
      clear hr1 hself
      clear d1
      go_loopg [3, 4] n (fun g o i wr => ∃ k q : Nat, k ≤ n ∧ g = n - k ∧ i = .int .i64 k ∧ o = .bool false ∧ W.drewN q = wr)
      case atStart => exact ⟨0, 0, Nat.zero_le _, rfl, rfl, rfl, rfl⟩
      case round =>
        obtain ⟨k, q, hk, rfl, rfl, rfl, rfl⟩ := hrel
        by_cases hlk : k < n
        · go_wp2_with fail
          go_quiet (fail)
          go_wp2_with fail
          go_roundg (n - (k + 1))
          case measure => omega
          case rel => exact ⟨k + 1, _, by omega, rfl, by go_num, rfl, rfl⟩
        · have HF : Hid (false = mayB ⟨false, tc, tv⟩) := by show _ = _; rw [mayB_false, H0'.out, Bool.false_and]
          go_wp2_with fail
          go_ret
          exact ⟨ret_bool HF.out, below_drewN_t hbel _⟩
    ·
      go_enter Try.func29, Try.ntmps29
      go_wp2_with fail
      generalize w.alloc (Obj.cells #[.bool false, .int .u8 tc, .slice A n c] 37) = W at hbel hr1 hself ⊢
      have c2 : W.cell? ⟨w.heap.size, 2, none⟩ = some (.slice A n c) := hself.cell 2
      have Hr := Lib.hid hr1
      clear hr1 hself
      clear d1
      go_loopg [3, 4] n (fun g o i wr => ∃ k q : Nat, k ≤ n ∧ g = n - k ∧ i = .int .i64 k ∧ o = .bool false ∧ W.drewN q = wr)
      case atStart => exact ⟨0, 0, Nat.zero_le _, rfl, rfl, rfl, rfl⟩
      case round =>
        obtain ⟨k, q, hk, rfl, rfl, rfl, rfl⟩ := hrel
        by_cases hlk : k < n
        · go_wp2_with fail
          go_quiet (fail)
          go_wp2_with fail
          go_roundg (n - (k + 1))
          case measure => omega
          case rel => exact ⟨k + 1, _, by omega, rfl, by go_num, rfl, rfl⟩
        · have HF : Hid (false = mayB ⟨false, tc, tv⟩) := by show _ = _; rw [mayB_false, H0'.out, Bool.false_and]
          go_wp2_with fail
          go_ret
          exact ⟨ret_bool HF.out, below_drewN_t hbel _⟩
    ·
      go_enter Try.func29, Try.ntmps29
      go_wp2_with fail
      generalize w.alloc (Obj.cells #[.bool false, .int .u8 tc, .slice A n c] 37) = W at hbel hr1 hself ⊢
      have c2 : W.cell? ⟨w.heap.size, 2, none⟩ = some (.slice A n c) := hself.cell 2
      have Hr := Lib.hid hr1
      clear hr1 hself
      clear d1
      go_loopg [3, 4] n (fun g o i wr => ∃ (k q : Nat) (b : Bool), k ≤ n ∧ g = n - k ∧ i = .int .i64 k ∧ o = .bool b ∧ Hid (varsB tv k = b) ∧ W.drewN q = wr)
      case atStart => exact ⟨0, 0, true, Nat.zero_le _, rfl, rfl, rfl, Lib.hid rfl, rfl⟩
      case round =>
        obtain ⟨k, q, b, hk, rfl, rfl, rfl, Hb, rfl⟩ := hrel
        by_cases hlk : k < n
        · have hk' : k < tv.length := by rw [Hl.out]; exact hlk
          have hg : tv.getD k 0 = tv[k] := by simp [List.getD, hk']
          have Hs : Hid (∀ x, varB tv k = x → varsB tv (k + 1) = (b && x)) := by
            show ∀ x, _
            intro x hx
            rw [← hx, ← Hb.out]
            rfl
          cases b
          · have Hn := Lib.hid (Hs.out _ rfl)
            rw [Bool.false_and] at Hn
            clear Hs hg
            go_wp2_with fail
            go_quiet (fail)
            go_wp2_with fail
            go_roundg (n - (k + 1))
            case measure => omega
            case rel => exact ⟨k + 1, _, _, by omega, rfl, by go_num, rfl, Hn, rfl⟩
          · obtain ⟨bb, off, rfl, hb, hcell⟩ := Hr.out.at_ (by omega)
            have hc1 := hcell k hk'
            have i1 : (0 : Int) ≤ (k : Int) := by omega
            have i2 : (k : Int) < (n : Int) := by omega
            have Hg := Lib.hid hg
            have Hcell := Lib.hid hcell
            clear hg hcell
            by_cases c1 : 0 ≤ tv[k]
            · have e1 : decide (0 ≤ tv[k]) = true := by simpa using c1
              by_cases c3 : tv[k] < 1048576
              · have e2 : decide (tv[k] < 1048576) = true := by simpa using c3
                by_cases c4 : k = 0
                · subst c4
                  have hc0 : W.cell? ⟨bb, off, none⟩ = some (.int .i64 (tv[0]'hk')) := hc1
                  have Hn := Lib.hid (Hs.out true (by unfold varB; rw [Hg.out, e1, e2]; rfl))
                  rw [Bool.true_and] at Hn
                  clear Hs c1 c3
                  go_wp2_with fail
                  go_quiet (fail)
                  go_wp2_with fail
                  go_roundg (n - (0 + 1))
                  case measure => omega
                  case rel => exact ⟨0 + 1, _, _, by omega, rfl, by go_num, rfl, Hn, rfl⟩
                · have hk1 : k - 1 < tv.length := by omega
                  have hg1 : tv.getD (k - 1) 0 = tv[k - 1] := by simp [List.getD, hk1]
                  have Hg1 := Lib.hid hg1
                  have hc2 : W.cell? ⟨bb, off + (k - 1), none⟩ = some (.int .i64 (tv[k - 1]'hk1)) := Hcell.out (k - 1) hk1
                  have i3 : IntKind.i64.wrap ((k : Int) - 1) = (k : Int) - 1 := IntWalk.i64_in _ (by omega)
                  have i4 : (0 : Int) ≤ (k : Int) - 1 := by omega
                  have i5 : (k : Int) - 1 < (n : Int) := by omega
                  have i6 : ((k : Int) - 1).toNat = k - 1 := by omega
                  have e4 : ((k : Int) == 0) = false := by simp; omega
                  by_cases c5 : tv[k - 1] < tv[k]
                  · have e3 : decide (tv[k - 1] < tv[k]) = true := by simpa using c5
                    have Hn := Lib.hid (Hs.out true (by unfold varB; rw [Hg.out, Hg1.out, e1, e2, e3, Bool.or_true]; rfl))
                    rw [Bool.true_and] at Hn
                    clear Hs c1 c3 c5 hg1
                    go_wp2_with fail
                    go_quiet (fail)
                    go_wp2_with fail
                    go_roundg (n - (k + 1))
                    case measure => omega
                    case rel => exact ⟨k + 1, _, _, by omega, rfl, by go_num, rfl, Hn, rfl⟩
                  · have e3 : decide (tv[k - 1] < tv[k]) = false := by simpa using c5
                    have Hn := Lib.hid (Hs.out false (by unfold varB; rw [Hg.out, Hg1.out, e1, e2, e3, decide_eq_false c4]; rfl))
                    rw [Bool.true_and] at Hn
                    clear Hs c1 c3 c5 hg1
                    go_wp2_with fail
                    go_quiet (fail)
                    go_wp2_with fail
                    go_roundg (n - (k + 1))
                    case measure => omega
                    case rel => exact ⟨k + 1, _, _, by omega, rfl, by go_num, rfl, Hn, rfl⟩
              · have e2 : decide (tv[k] < 1048576) = false := by simpa using c3
                have Hn := Lib.hid (Hs.out false (by unfold varB; rw [Hg.out, e1, e2]; rfl))
                rw [Bool.true_and] at Hn
                clear Hs c1 c3
                go_wp2_with fail
                go_quiet (fail)
                go_wp2_with fail
                go_roundg (n - (k + 1))
                case measure => omega
                case rel => exact ⟨k + 1, _, _, by omega, rfl, by go_num, rfl, Hn, rfl⟩
            · have e1 : decide (0 ≤ tv[k]) = false := by simpa using c1
              have Hn := Lib.hid (Hs.out false (by unfold varB; rw [Hg.out, e1]; rfl))
              rw [Bool.true_and] at Hn
              clear Hs c1
              go_wp2_with fail
              go_quiet (fail)
              go_wp2_with fail
              go_roundg (n - (k + 1))
              case measure => omega
              case rel => exact ⟨k + 1, _, _, by omega, rfl, by go_num, rfl, Hn, rfl⟩
        · have HF : Hid (b = mayB ⟨false, tc, tv⟩) := by
            show _ = _
            have : k = tv.length := by have := Hl.out; omega
            rw [mayB_false, H0'.out, Bool.true_and, ← this, Hb.out]
          go_wp2_with fail
          go_ret
          exact ⟨ret_bool HF.out, below_drewN_t hbel _⟩
    ·
      go_enter Try.func29, Try.ntmps29
      go_wp2_with fail
      generalize w.alloc (Obj.cells #[.bool false, .int .u8 tc, .slice A n c] 37) = W at hbel hr1 hself ⊢
      have c2 : W.cell? ⟨w.heap.size, 2, none⟩ = some (.slice A n c) := hself.cell 2
      have Hr := Lib.hid hr1
      clear hr1 hself
      clear d1
      go_loopg [3, 4] n (fun g o i wr => ∃ (k q : Nat) (b : Bool), k ≤ n ∧ g = n - k ∧ i = .int .i64 k ∧ o = .bool b ∧ Hid (varsB tv k = b) ∧ W.drewN q = wr)
      case atStart => exact ⟨0, 0, true, Nat.zero_le _, rfl, rfl, rfl, Lib.hid rfl, rfl⟩
      case round =>
        obtain ⟨k, q, b, hk, rfl, rfl, rfl, Hb, rfl⟩ := hrel
        by_cases hlk : k < n
        · have hk' : k < tv.length := by rw [Hl.out]; exact hlk
          have hg : tv.getD k 0 = tv[k] := by simp [List.getD, hk']
          have Hs : Hid (∀ x, varB tv k = x → varsB tv (k + 1) = (b && x)) := by
            show ∀ x, _
            intro x hx
            rw [← hx, ← Hb.out]
            rfl
          cases b
          · have Hn := Lib.hid (Hs.out _ rfl)
            rw [Bool.false_and] at Hn
            clear Hs hg
            go_wp2_with fail
            go_quiet (fail)
            go_wp2_with fail
            go_roundg (n - (k + 1))
            case measure => omega
            case rel => exact ⟨k + 1, _, _, by omega, rfl, by go_num, rfl, Hn, rfl⟩
          · obtain ⟨bb, off, rfl, hb, hcell⟩ := Hr.out.at_ (by omega)
            have hc1 := hcell k hk'
            have i1 : (0 : Int) ≤ (k : Int) := by omega
            have i2 : (k : Int) < (n : Int) := by omega
            have Hg := Lib.hid hg
            have Hcell := Lib.hid hcell
            clear hg hcell
            by_cases c1 : 0 ≤ tv[k]
            · have e1 : decide (0 ≤ tv[k]) = true := by simpa using c1
              by_cases c3 : tv[k] < 1048576
              · have e2 : decide (tv[k] < 1048576) = true := by simpa using c3
                by_cases c4 : k = 0
                · subst c4
                  have hc0 : W.cell? ⟨bb, off, none⟩ = some (.int .i64 (tv[0]'hk')) := hc1
                  have Hn := Lib.hid (Hs.out true (by unfold varB; rw [Hg.out, e1, e2]; rfl))
                  rw [Bool.true_and] at Hn
                  clear Hs c1 c3
                  go_wp2_with fail
                  go_quiet (fail)
                  go_wp2_with fail
                  go_roundg (n - (0 + 1))
                  case measure => omega
                  case rel => exact ⟨0 + 1, _, _, by omega, rfl, by go_num, rfl, Hn, rfl⟩
                · have hk1 : k - 1 < tv.length := by omega
                  have hg1 : tv.getD (k - 1) 0 = tv[k - 1] := by simp [List.getD, hk1]
                  have Hg1 := Lib.hid hg1
                  have hc2 : W.cell? ⟨bb, off + (k - 1), none⟩ = some (.int .i64 (tv[k - 1]'hk1)) := Hcell.out (k - 1) hk1
                  have i3 : IntKind.i64.wrap ((k : Int) - 1) = (k : Int) - 1 := IntWalk.i64_in _ (by omega)
                  have i4 : (0 : Int) ≤ (k : Int) - 1 := by omega
                  have i5 : (k : Int) - 1 < (n : Int) := by omega
                  have i6 : ((k : Int) - 1).toNat = k - 1 := by omega
                  have e4 : ((k : Int) == 0) = false := by simp; omega
                  by_cases c5 : tv[k - 1] < tv[k]
                  · have e3 : decide (tv[k - 1] < tv[k]) = true := by simpa using c5
                    have Hn := Lib.hid (Hs.out true (by unfold varB; rw [Hg.out, Hg1.out, e1, e2, e3, Bool.or_true]; rfl))
                    rw [Bool.true_and] at Hn
                    clear Hs c1 c3 c5 hg1
                    go_wp2_with fail
                    go_quiet (fail)
                    go_wp2_with fail
                    go_roundg (n - (k + 1))
                    case measure => omega
                    case rel => exact ⟨k + 1, _, _, by omega, rfl, by go_num, rfl, Hn, rfl⟩
                  · have e3 : decide (tv[k - 1] < tv[k]) = false := by simpa using c5
                    have Hn := Lib.hid (Hs.out false (by unfold varB; rw [Hg.out, Hg1.out, e1, e2, e3, decide_eq_false c4]; rfl))
                    rw [Bool.true_and] at Hn
                    clear Hs c1 c3 c5 hg1
                    go_wp2_with fail
                    go_quiet (fail)
                    go_wp2_with fail
                    go_roundg (n - (k + 1))
                    case measure => omega
                    case rel => exact ⟨k + 1, _, _, by omega, rfl, by go_num, rfl, Hn, rfl⟩
              · have e2 : decide (tv[k] < 1048576) = false := by simpa using c3
                have Hn := Lib.hid (Hs.out false (by unfold varB; rw [Hg.out, e1, e2]; rfl))
                rw [Bool.true_and] at Hn
                clear Hs c1 c3
                go_wp2_with fail
                go_quiet (fail)
                go_wp2_with fail
                go_roundg (n - (k + 1))
                case measure => omega
                case rel => exact ⟨k + 1, _, _, by omega, rfl, by go_num, rfl, Hn, rfl⟩
            · have e1 : decide (0 ≤ tv[k]) = false := by simpa using c1
              have Hn := Lib.hid (Hs.out false (by unfold varB; rw [Hg.out, e1]; rfl))
              rw [Bool.true_and] at Hn
              clear Hs c1
              go_wp2_with fail
              go_quiet (fail)
              go_wp2_with fail
              go_roundg (n - (k + 1))
              case measure => omega
              case rel => exact ⟨k + 1, _, _, by omega, rfl, by go_num, rfl, Hn, rfl⟩
        · have HF : Hid (b = mayB ⟨false, tc, tv⟩) := by
            show _ = _
            have : k = tv.length := by have := Hl.out; omega
            rw [mayB_false, H0'.out, Bool.true_and, ← this, Hb.out]
          go_wp2_with fail
          go_ret
          exact ⟨ret_bool HF.out, below_drewN_t hbel _⟩
    ·
      go_enter Try.func29, Try.ntmps29
      go_wp2_with fail
      generalize w.alloc (Obj.cells #[.bool false, .int .u8 tc, .slice A n c] 37) = W at hbel hr1 hself ⊢
      have c2 : W.cell? ⟨w.heap.size, 2, none⟩ = some (.slice A n c) := hself.cell 2
      have Hr := Lib.hid hr1
      clear hr1 hself
      clear d1
      go_loopg [3, 4] n (fun g o i wr => ∃ k q : Nat, k ≤ n ∧ g = n - k ∧ i = .int .i64 k ∧ o = .bool false ∧ W.drewN q = wr)
      case atStart => exact ⟨0, 0, Nat.zero_le _, rfl, rfl, rfl, rfl⟩
      case round =>
        obtain ⟨k, q, hk, rfl, rfl, rfl, rfl⟩ := hrel
        by_cases hlk : k < n
        · go_wp2_with fail
          go_quiet (fail)
          go_wp2_with fail
          go_roundg (n - (k + 1))
          case measure => omega
          case rel => exact ⟨k + 1, _, by omega, rfl, by go_num, rfl, rfl⟩
        · have HF : Hid (false = mayB ⟨false, tc, tv⟩) := by show _ = _; rw [mayB_false, H0'.out, Bool.false_and]
          go_wp2_with fail
          go_ret
          exact ⟨ret_bool HF.out, below_drewN_t hbel _⟩
  · have hE : Hid ((tc == 0 && decide (n = 0)) = mayB ⟨true, tc, tv⟩) := by
      show _ = _
      simp [mayB, hempty]
    clear hempty
    by_cases h : tc = 0
    · have d : (tc == 0) = true := by simp [h]
      clear h
      go_enter Try.func29, Try.ntmps29
      go_wp2_with fail
      go_ret
      exact ⟨ret_bool (by rw [← hE.out, d, Bool.true_and, Bool.eq_iff_iff]; simp), hbel⟩
    · have d : (tc == 0) = false := by simp [h]
      clear h
      go_enter Try.func29, Try.ntmps29
      go_wp2_with fail
      go_ret
      exact ⟨ret_bool (by rw [← hE.out, d]; simp), hbel⟩

end Go.Proofs.Ytimlbpjdgnapoaa
