/- The contract of usufructref03.Holds. -/
import Derived.Test.YtbccnfgceabopaaDoorIneqE
namespace Go.Proofs.YtbccnfgceabopaaDoor
set_option linter.unusedVariables false
set_option linter.unusedSimpArgs false
open Go.RowKit

theorem refMayQ_at {lv lc c r : Int} {x : Bool} (hx : mayQ lv lc c r = x) (w : World) :
    Calls Tryd.prog 19 #[.agg #[.int .i64 lv, .int .u8 lc, .int .u8 c, .int .i64 r]] w fun e w' => e = .returned (.bool x) ∧ Below w.heap.size w w' := by
  rw [← hx]; exact refMayQ_any lv lc c r w
theorem there_at {asg : List Int} {v : Int} {x : Bool} (hx : okV asg v = x) (hv : 0 ≤ v) {A : Option Addr} {n c : Nat} {w : World} {B : Nat} (ha : RdI .u8 w B A n c asg) :
    Calls Tryd.prog 48 #[.int .i64 v, .slice A n c] w fun e w' => e = .returned (.bool x) ∧ w = w' := by
  rw [← hx]; exact there_any v A n c asg w B ha hv
theorem refOne_at {lv lc c r : Int} {asg : List Int} {x : Bool} (hx : holdsQ asg lv lc c r = x) (hbad : badQ asg lv lc r = false) (hlv : lc = 0 → 0 ≤ lv) {A : Option Addr} {n cp : Nat} {w : World} {B : Nat} (ha : RdI .u8 w B A n cp asg) (hB : B ≤ w.heap.size) :
    Calls Tryd.prog 49 #[.agg #[.int .i64 lv, .int .u8 lc, .int .u8 c, .int .i64 r], .slice A n cp] w fun e w' => e = .returned (.bool x) ∧ Below w.heap.size w w' := by
  rw [← hx]; exact refOne_any lv lc c r A n cp asg w B ha hB hbad hlv


set_option maxHeartbeats 1000000 in
theorem refHolds_any (A : Option Addr) (n c : Nat) (xs : List IneqD) (A' : Option Addr) (n' c' : Nat) (asg : List Int) (w : World) (hx : IneqsV w w.heap.size A n c xs) (ha : RdI .u8 w w.heap.size A' n' c' asg) :
    Calls Tryd.prog 17 #[.slice A n c, .slice A' n' c'] w fun e w' => e = .returned (.tuple #[.int .i64 (holdsAll asg xs).1, .int .i64 (holdsAll asg xs).2]) ∧ Below w.heap.size w w' := by
  have hn63 : n ≤ 9223372036854775807 := Nat.le_trans hx.2.1 hx.2.2.1
  have Hl := Lib.hid hx.len
  have Hx := Lib.hid hx
  have Ha := Lib.hid ha
  clear hx ha
  go_enter Tryd.func17, Tryd.ntmps17
  go_wp2_with fail
  go_loopg [6] n (fun g i wr => ∃ k : Nat, k ≤ n ∧ g = n - k ∧ i = .int .i64 k ∧ Hid (xs.all mayX = (xs.drop k).all mayX) ∧ Hid (Below w.heap.size w wr))
  case atStart => exact ⟨0, Nat.zero_le _, rfl, rfl, Lib.hid rfl, Lib.hid (Below.refl _ _)⟩
  case round =>
    obtain ⟨k, hk, rfl, rfl, Hm, Hb⟩ := hrel
    by_cases hlk : k < n
    · have hk' : k < xs.length := by rw [Hl.out]; exact hlk
      obtain ⟨b, off, rfl, hb, hcell⟩ := (Hx.out.below Hb.out).at_ (by omega)
      obtain ⟨e0, e1, e2, e3⟩ := hcell k hk'
      have hdrop : xs.drop k = xs[k] :: xs.drop (k + 1) := List.drop_eq_getElem_cons hk'
      generalize xs[k] = x at e0 e1 e2 e3 hdrop
      have Hdrop := Lib.hid hdrop
      clear hdrop hcell
      cases hm : mayX x
      · have H5 : Hid (holdsAll asg xs = (0, 2)) := by show _ = _; unfold holdsAll; rw [Hm.out, Hdrop.out]; simp [hm]
        have Hq : Hid (mayQ x.lv x.lc x.c x.r = false) := Lib.hid hm
        clear hm
        go_wp2_with fail
        refine (refMayQ_at Hq.out _).mono ?_; rintro e w2 ⟨rfl, hb2⟩
        have hb' := Hb.out.trans (hb2.mono Hb.out.size)
        go_wp2_with fail
        go_ret2
        exact ⟨by rw [H5.out]; rfl, hb'⟩
      · have Hm' : Hid (xs.all mayX = (xs.drop (k + 1)).all mayX) := by show _ = _; rw [Hm.out, Hdrop.out]; simp [hm]
        have Hq : Hid (mayQ x.lv x.lc x.c x.r = true) := Lib.hid hm
        clear hm
        go_wp2_with fail
        refine (refMayQ_at Hq.out _).mono ?_; rintro e w2 ⟨rfl, hb2⟩
        have Hb' := Lib.hid (Hb.out.trans (hb2.mono Hb.out.size))
        go_wp2_with fail
        go_roundg (n - (k + 1))
        case measure => omega
        case rel => exact ⟨k + 1, by omega, rfl, by go_num, Hm', Hb'⟩
    · have hkn : k = n := by omega
      subst hkn
      have Hall : Hid (xs.all mayX = true) := by show _ = _; rw [Hm.out, List.drop_of_length_le (by rw [Hl.out]; exact Nat.le_refl _)]; rfl
      clear Hm
      go_wp2_with fail
      have Ha1 := Lib.hid ((Ha.out.below Hb.out))
      have Hx1 := Lib.hid (Hx.out.below Hb.out)
      go_loopg [7] k (fun g i wr' => ∃ j : Nat, j ≤ k ∧ g = k - j ∧ i = .int .i64 j ∧ Hid (xs.any (badX asg) = (xs.drop j).any (badX asg)) ∧ wr = wr')
      case atStart => exact ⟨0, Nat.zero_le _, rfl, rfl, Lib.hid rfl, rfl⟩
      case round =>
        obtain ⟨j, hj, rfl, rfl, Hbad, rfl⟩ := hrel
        by_cases hlj : j < k
        · have hj' : j < xs.length := by rw [Hl.out]; exact hlj
          obtain ⟨b, off, rfl, hb, hcell⟩ := Hx1.out.at_ (by omega)
          obtain ⟨e0, e1, e2, e3⟩ := hcell j hj'
          have hdrop : xs.drop j = xs[j] :: xs.drop (j + 1) := List.drop_eq_getElem_cons hj'
          have hmx : mayX xs[j] = true := List.all_eq_true.1 Hall.out _ (List.getElem_mem hj')
          generalize xs[j] = x at e0 e1 e2 e3 hdrop hmx
          have Hdrop := Lib.hid hdrop
          have Hlv := Lib.hid (mayX_lv hmx)
          clear hdrop hcell hmx
          by_cases h0 : x.lc = 0
          · have Hlv0 : Hid (0 ≤ x.lv) := Lib.hid (Hlv.out h0)
            cases hol : okV asg x.lv
            · have HX : Hid (badX asg x = true) := by show _ = _; simp [badX, badQ, h0, hol]
              have Hol := Lib.hid hol
              clear hol
              rw [h0] at e1
              have H5 : Hid (holdsAll asg xs = (0, 5)) := by show _ = _; unfold holdsAll; rw [Hall.out, Hbad.out, Hdrop.out]; simp [HX.out]
              go_wp2_with (first | (go_at_call_of 48 #[Value.int IntKind.i64 x.lv, Value.slice A' n' c']; refine (there_at Hol.out Hlv0.out Ha1.out).mono ?_; rintro e w2 ⟨rfl, rfl⟩) | (go_at_call_of 48 #[Value.int IntKind.i64 x.r, Value.slice A' n' c']; refine (there_at Hor.out hr0 Ha1.out).mono ?_; rintro e w2 ⟨rfl, rfl⟩))
              go_ret2
              exact ⟨by rw [H5.out]; rfl, Hb.out⟩
            · have Hp : Hid ((x.lc == 0 && !okV asg x.lv) = false) := by show _ = _; simp [hol]
              have Hol := Lib.hid hol
              clear hol
              rw [h0] at e1
              by_cases hr0 : 0 ≤ x.r
              · cases hor : okV asg x.r
                · have HX : Hid (badX asg x = true) := by show _ = _; simp [badX, badQ, hr0, hor]
                  have Hor := Lib.hid hor
                  clear hor
                  have H5 : Hid (holdsAll asg xs = (0, 5)) := by show _ = _; unfold holdsAll; rw [Hall.out, Hbad.out, Hdrop.out]; simp [HX.out]
                  go_wp2_with (first | (go_at_call_of 48 #[Value.int IntKind.i64 x.lv, Value.slice A' n' c']; refine (there_at Hol.out Hlv0.out Ha1.out).mono ?_; rintro e w2 ⟨rfl, rfl⟩) | (go_at_call_of 48 #[Value.int IntKind.i64 x.r, Value.slice A' n' c']; refine (there_at Hor.out hr0 Ha1.out).mono ?_; rintro e w2 ⟨rfl, rfl⟩))
                  go_ret2
                  exact ⟨by rw [H5.out]; rfl, Hb.out⟩
                · have HX : Hid (badX asg x = false) := by show _ = _; simp [badX, badQ, hr0, hor, Hp.out]
                  have Hor := Lib.hid hor
                  clear hor
                  have Hbad' : Hid (xs.any (badX asg) = (xs.drop (j + 1)).any (badX asg)) := by show _ = _; rw [Hbad.out, Hdrop.out]; simp [HX.out]
                  go_wp2_with (first | (go_at_call_of 48 #[Value.int IntKind.i64 x.lv, Value.slice A' n' c']; refine (there_at Hol.out Hlv0.out Ha1.out).mono ?_; rintro e w2 ⟨rfl, rfl⟩) | (go_at_call_of 48 #[Value.int IntKind.i64 x.r, Value.slice A' n' c']; refine (there_at Hor.out hr0 Ha1.out).mono ?_; rintro e w2 ⟨rfl, rfl⟩))
                  go_roundg (k - (j + 1))
                  case measure => omega
                  case rel => exact ⟨j + 1, by omega, rfl, by go_num, Hbad', rfl⟩
              · have HX : Hid (badX asg x = false) := by show _ = _; simp [badX, badQ, hr0, Hp.out]
                have Hbad' : Hid (xs.any (badX asg) = (xs.drop (j + 1)).any (badX asg)) := by show _ = _; rw [Hbad.out, Hdrop.out]; simp [HX.out]
                go_wp2_with (first | (go_at_call_of 48 #[Value.int IntKind.i64 x.lv, Value.slice A' n' c']; refine (there_at Hol.out Hlv0.out Ha1.out).mono ?_; rintro e w2 ⟨rfl, rfl⟩) | (go_at_call_of 48 #[Value.int IntKind.i64 x.r, Value.slice A' n' c']; refine (there_at Hor.out hr0 Ha1.out).mono ?_; rintro e w2 ⟨rfl, rfl⟩))
                go_roundg (k - (j + 1))
                case measure => omega
                case rel => exact ⟨j + 1, by omega, rfl, by go_num, Hbad', rfl⟩
          · have Hp : Hid ((x.lc == 0 && !okV asg x.lv) = false) := by show _ = _; simp [h0]
            have hz : (x.lc == 0) = false := by simp [h0]
            by_cases hr0 : 0 ≤ x.r
            · cases hor : okV asg x.r
              · have HX : Hid (badX asg x = true) := by show _ = _; simp [badX, badQ, hr0, hor]
                have Hor := Lib.hid hor
                clear hor
                have H5 : Hid (holdsAll asg xs = (0, 5)) := by show _ = _; unfold holdsAll; rw [Hall.out, Hbad.out, Hdrop.out]; simp [HX.out]
                go_wp2_with (first | (go_at_call_of 48 #[Value.int IntKind.i64 x.lv, Value.slice A' n' c']; refine (there_at Hol.out Hlv0.out Ha1.out).mono ?_; rintro e w2 ⟨rfl, rfl⟩) | (go_at_call_of 48 #[Value.int IntKind.i64 x.r, Value.slice A' n' c']; refine (there_at Hor.out hr0 Ha1.out).mono ?_; rintro e w2 ⟨rfl, rfl⟩))
                go_ret2
                exact ⟨by rw [H5.out]; rfl, Hb.out⟩
              · have HX : Hid (badX asg x = false) := by show _ = _; simp [badX, badQ, hr0, hor, Hp.out]
                have Hor := Lib.hid hor
                clear hor
                have Hbad' : Hid (xs.any (badX asg) = (xs.drop (j + 1)).any (badX asg)) := by show _ = _; rw [Hbad.out, Hdrop.out]; simp [HX.out]
                go_wp2_with (first | (go_at_call_of 48 #[Value.int IntKind.i64 x.lv, Value.slice A' n' c']; refine (there_at Hol.out Hlv0.out Ha1.out).mono ?_; rintro e w2 ⟨rfl, rfl⟩) | (go_at_call_of 48 #[Value.int IntKind.i64 x.r, Value.slice A' n' c']; refine (there_at Hor.out hr0 Ha1.out).mono ?_; rintro e w2 ⟨rfl, rfl⟩))
                go_roundg (k - (j + 1))
                case measure => omega
                case rel => exact ⟨j + 1, by omega, rfl, by go_num, Hbad', rfl⟩
            · have HX : Hid (badX asg x = false) := by show _ = _; simp [badX, badQ, hr0, Hp.out]
              have Hbad' : Hid (xs.any (badX asg) = (xs.drop (j + 1)).any (badX asg)) := by show _ = _; rw [Hbad.out, Hdrop.out]; simp [HX.out]
              go_wp2_with (first | (go_at_call_of 48 #[Value.int IntKind.i64 x.lv, Value.slice A' n' c']; refine (there_at Hol.out Hlv0.out Ha1.out).mono ?_; rintro e w2 ⟨rfl, rfl⟩) | (go_at_call_of 48 #[Value.int IntKind.i64 x.r, Value.slice A' n' c']; refine (there_at Hor.out hr0 Ha1.out).mono ?_; rintro e w2 ⟨rfl, rfl⟩))
              go_roundg (k - (j + 1))
              case measure => omega
              case rel => exact ⟨j + 1, by omega, rfl, by go_num, Hbad', rfl⟩
        · have hjk : j = k := by omega
          subst hjk
          have Hany : Hid (xs.any (badX asg) = false) := by show _ = _; rw [Hbad.out, List.drop_of_length_le (by rw [Hl.out]; exact Nat.le_refl _)]; simp
          go_wp2_with fail
          clear Hbad
          rename_i wq
          go_loopg [8] j (fun g i wr' => ∃ m : Nat, m ≤ j ∧ g = j - m ∧ i = .int .i64 m ∧ Hid (firstGo asg xs 0 = firstGo asg (xs.drop m) m) ∧ Hid (Below w.heap.size w wr'))
          case atStart => exact ⟨0, Nat.zero_le _, rfl, rfl, Lib.hid rfl, Hb⟩
          case round =>
            obtain ⟨m, hm, rfl, rfl, HF, Hb3⟩ := hrel
            by_cases hlm : m < j
            · have hm' : m < xs.length := by rw [Hl.out]; exact hlm
              obtain ⟨b, off, rfl, hb, hcell⟩ := (Hx.out.below Hb3.out).at_ (by omega)
              obtain ⟨e0, e1, e2, e3⟩ := hcell m hm'
              have hdrop : xs.drop m = xs[m] :: xs.drop (m + 1) := List.drop_eq_getElem_cons hm'
              have hmx : mayX xs[m] = true := List.all_eq_true.1 Hall.out _ (List.getElem_mem hm')
              have hbx : badX asg xs[m] = false := by have := List.any_eq_false.1 Hany.out _ (List.getElem_mem hm'); simpa using this
              generalize xs[m] = x at e0 e1 e2 e3 hdrop hmx hbx
              have Hdrop := Lib.hid hdrop
              have Hlv := Lib.hid (mayX_lv hmx)
              have Hbx : Hid (badQ asg x.lv x.lc x.r = false) := Lib.hid hbx
              clear hdrop hcell hmx hbx
              cases hh : holdsX asg x
              · have Hh : Hid (holdsQ asg x.lv x.lc x.c x.r = false) := Lib.hid hh
                have H5 : Hid (holdsAll asg xs = ((m : Int), 0)) := by show _ = _; unfold holdsAll; rw [Hall.out, Hany.out, HF.out, Hdrop.out]; simp [firstGo, hh]
                clear hh
                go_wp2_with fail
                refine (refOne_at Hh.out Hbx.out Hlv.out (Ha.out.below Hb3.out) Hb3.out.size).mono ?_; rintro e w2 ⟨rfl, hb2⟩
                have hb' := Hb3.out.trans (hb2.mono Hb3.out.size)
                go_wp2_with fail
                go_ret2
                exact ⟨by rw [H5.out]; rfl, hb'⟩
              · have Hh : Hid (holdsQ asg x.lv x.lc x.c x.r = true) := Lib.hid hh
                have HF' : Hid (firstGo asg xs 0 = firstGo asg (xs.drop (m + 1)) ((m + 1 : Nat) : Int)) := by show _ = _; rw [HF.out, Hdrop.out]; simp [firstGo, hh]
                clear hh
                go_wp2_with fail
                refine (refOne_at Hh.out Hbx.out Hlv.out (Ha.out.below Hb3.out) Hb3.out.size).mono ?_; rintro e w2 ⟨rfl, hb2⟩
                have Hb' := Lib.hid (Hb3.out.trans (hb2.mono Hb3.out.size))
                go_wp2_with fail
                go_roundg (j - (m + 1))
                case measure => omega
                case rel => exact ⟨m + 1, by omega, rfl, by go_num, HF', Hb'⟩
            · have hmj : m = j := by omega
              subst hmj
              have H5 : Hid (holdsAll asg xs = (-1, 0)) := by show _ = _; unfold holdsAll; rw [Hall.out, Hany.out, HF.out, List.drop_of_length_le (by rw [Hl.out]; exact Nat.le_refl _)]; rfl
              go_wp2_with fail
              go_ret2
              exact ⟨by rw [H5.out]; rfl, Hb3.out⟩

end Go.Proofs.YtbccnfgceabopaaDoor
