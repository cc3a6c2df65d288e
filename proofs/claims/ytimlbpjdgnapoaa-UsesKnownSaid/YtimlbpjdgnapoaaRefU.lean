/- The contract of usufructref02.both. -/
import Derived.Test.YtimlbpjdgnapoaaRefT
import Derived.Test.YtimlbpjdgnapoaaRefDef
import Derived.Deep.QuietTactic
import Derived.BigQuiet
namespace Go.Proofs.Ytimlbpjdgnapoaa
set_option linter.unusedVariables false
set_option linter.unusedSimpArgs false
open Go.RowKit

/-- one round of the loop -/
theorem bothGo_a {a b out : List Int} {i k : Nat} (hi : i < a.length) (h : b.length ≤ k ∨ ∃ hk : k < b.length, a[i] ≤ b[k]) : bothGo (a.drop i) (b.drop k) out = bothGo (a.drop (i + 1)) (b.drop k) (insL out a[i]) := by
  rw [List.drop_eq_getElem_cons hi]
  rcases h with h | ⟨hk, h⟩
  · rw [List.drop_of_length_le h, bothGo]
  · rw [List.drop_eq_getElem_cons hk, bothGo, if_pos h]
theorem bothGo_b {a b out : List Int} {i k : Nat} (hk : k < b.length) (h : a.length ≤ i ∨ ∃ hi : i < a.length, ¬ a[i] ≤ b[k]) : bothGo (a.drop i) (b.drop k) out = bothGo (a.drop i) (b.drop (k + 1)) (insL out b[k]) := by
  rw [List.drop_eq_getElem_cons hk]
  rcases h with h | ⟨hi, h⟩
  · rw [List.drop_of_length_le h, bothGo]
  · rw [List.drop_eq_getElem_cons hi, bothGo, if_neg h]
theorem insL_le (out : List Int) (x : Int) : (insL out x).length ≤ out.length + 1 := by
  unfold insL; split <;> simp

set_option maxHeartbeats 2000000 in
theorem both_any (A : Option Addr) (n c : Nat) (us : List Int) (A' : Option Addr) (n' c' : Nat) (vs : List Int) (w : World) (B B' : Nat) (h : RdI .i64 w B A n c us) (h' : RdI .i64 w B' A' n' c' vs) (hB : B ≤ w.heap.size) (hB' : B' ≤ w.heap.size) (hbig : n + n' ≤ 1099511627776) :
    Calls Try.prog 85 #[.slice A n c, .slice A' n' c'] w (RetI .i64 (bothGo us vs []) w) := by
  have hl := h.len
  have hl' := h'.len
  have Hl := Lib.hid hl
  have Hl' := Lib.hid hl'
  clear hl hl'
  obtain ⟨i0, hi0, hz0, hz1, hz2⟩ := info_parts (show (Try.prog.info? 3).map (fun i => (i.zero, i.size, i.bytes)) = some (some (.int .i64 0), 1, 8) from by kernel_rfl)
  have Hr := Lib.hid (h.more hB)
  have Hr' := Lib.hid (h'.more hB')
  clear h h'
  go_enter Try.func85, Try.ntmps85
  go_wp2_with fail
  go_loopg [5, 6, 7] (n + n') (fun g o i k wr => ∃ (x y m : Nat) (A1 : Option Addr) (c1 : Nat) (O : List Int), x ≤ n ∧ y ≤ n' ∧ g = (n - x) + (n' - y) ∧ i = .int .i64 x ∧ k = .int .i64 y ∧ o = .slice A1 m c1 ∧
    wr.ownsRow w.heap.size 3 1 (.slice A1 m c1) m (O.map (Value.int .i64)) ∧ m ≤ x + y ∧ Hid (bothGo (us.drop x) (vs.drop y) O = bothGo us vs []) ∧ Below w.heap.size w wr)
  case atStart => exact ⟨0, 0, 0, none, 0, [], Nat.zero_le _, Nat.zero_le _, by omega, rfl, rfl, rfl, World.ownsRow_nil _ _ _ _, Nat.zero_le _, Lib.hid rfl, Below.refl _ _⟩
  case round =>
    obtain ⟨x, y, m, A1, c1, O, hx, hy, rfl, rfl, rfl, rfl, ho, hm, Hgo, hbel⟩ := hrel
    have hn63 : n ≤ 9223372036854775807 := by omega
    have hn63' : n' ≤ 9223372036854775807 := by omega
    have hR := Hr.out.below hbel
    have hR' := Hr'.out.below hbel
    have hO := RdI.of_own ho
    have ix : (0 : Int) ≤ (x : Int) := by omega
    have iy : (0 : Int) ≤ (y : Int) := by omega
    by_cases hyn : y < n'
    · obtain ⟨b2, o2, rfl, hb2, hc2⟩ := hR'.at_ (by omega)
      have hk2 : y < vs.length := by rw [Hl'.out]; exact hyn
      have x2 := hc2 y hk2
      have iy2 : (y : Int) < (n' : Int) := by omega
      have dy : decide (n' ≤ y) = false := by simpa using hyn
      clear hc2 hR'
      by_cases hxn : x < n
      · obtain ⟨b1, o1, rfl, hb1, hc1⟩ := hR.at_ (by omega)
        have hk1 : x < us.length := by rw [Hl.out]; exact hxn
        have x1 := hc1 x hk1
        have ix2 : (x : Int) < (n : Int) := by omega
        have dx : decide (x < n) = true := by simpa using hxn
        clear hc1 hR
        by_cases hle : us[x] ≤ vs[y]
        · have dl : decide (us[x] ≤ vs[y]) = true := by simpa using hle
          have Hgo' := Lib.hid ((bothGo_a (out := O) hk1 (.inr ⟨hk2, hle⟩)).symm.trans Hgo.out)
          clear Hgo
          have Ho := Lib.hid ho
          have HO := Lib.hid hO
          clear ho hO
          by_cases hin : O.contains us[x] = true
          · have hO' : insL O us[x] = O := by unfold insL; rw [if_pos hin]
            have Hin := Lib.hid hin
            rw [hO'] at Hgo'
            clear hin hO'
            go_wp2_with fail
            go_quiet (fail)
            go_wp2_with fail
            refine (has_any A1 m c1 O us[x] _ wr.heap.size (by exact HO.out.keep fun _ _ => rfl) (by exact Nat.le_refl _)).mono ?_; rintro e w1 ⟨rfl, hb1⟩
            rw [Hin.out]
            go_wp2_with fail
            go_roundg (n - (x + 1) + (n' - y))
            case measure => omega
            case rel => exact ⟨x + 1, y, m, A1, c1, O, by omega, by omega, rfl, by go_num, by go_num, rfl, ownsRow_beyond Ho.out ((below_drewN_t (Below.refl _ _) _).trans hb1), by omega, Hgo', hbel.trans (((below_drewN_t (Below.refl _ _) _).trans hb1).mono hbel.size)⟩
          · have hO' : insL O us[x] = O ++ [us[x]] := by unfold insL; rw [if_neg hin]
            have Hin := Lib.hid (show O.contains us[x] = false by simpa using hin)
            rw [hO'] at Hgo'
            clear hin hO'
            go_wp2_with fail
            go_quiet (fail)
            go_wp2_with fail
            refine (has_any A1 m c1 O us[x] _ wr.heap.size (by exact HO.out.keep fun _ _ => rfl) (by exact Nat.le_refl _)).mono ?_; rintro e w1 ⟨rfl, hb1⟩
            rw [Hin.out]
            have hb2 := (below_drewN_t (Below.refl _ _) _).trans hb1
            have ho1 := ownsRow_beyond Ho.out hb2
            have hbel1 := hbel.trans (hb2.mono hbel.size)
            have cx : w1.cell? ⟨b1, o1 + x, none⟩ = some (.int .i64 us[x]) := (hb2.cell (p := ⟨b1, o1 + x, none⟩) (by show b1 < wr.heap.size; have := hbel.size; omega)).trans x1
            clear hb1 hb2 x1
            go_wp2_with (at_builtin; refine wpList_append_one w w1 rfl (.tmp 46) (.tmp 51) 35 rfl w.heap.size 3 i0 _ 1 8 Try.underlying35 hi0 hz0 hz1 hz2 rfl (by omega) (.slice A1 m c1) m (O.map (Value.int .i64)) rfl [.int .i64 us[x]] rfl (by intro u hu; simp at hu; subst hu; rfl) rfl ho1 (by unfold maxLen; omega) (by omega) hbel1 hbel1.size ?_; intro A2 c2 w2 ho2 hbel2 hg2 hz2')
            go_roundg (n - (x + 1) + (n' - y))
            case measure => omega
            case rel => exact ⟨x + 1, y, m + 1, A2, c2, O ++ [us[x]], by omega, by omega, rfl, by go_num, by go_num, rfl, by rw [List.map_append]; exact ho2, by omega, Hgo', hbel2⟩
        · have dl : decide (us[x] ≤ vs[y]) = false := by simpa using hle
          have Hgo' := Lib.hid ((bothGo_b (out := O) hk2 (.inr ⟨hk1, hle⟩)).symm.trans Hgo.out)
          clear Hgo
          have Ho := Lib.hid ho
          have HO := Lib.hid hO
          clear ho hO
          by_cases hin : O.contains vs[y] = true
          · have hO' : insL O vs[y] = O := by unfold insL; rw [if_pos hin]
            have Hin := Lib.hid hin
            rw [hO'] at Hgo'
            clear hin hO'
            go_wp2_with fail
            go_quiet (fail)
            go_wp2_with fail
            refine (has_any A1 m c1 O vs[y] _ wr.heap.size (by exact HO.out.keep fun _ _ => rfl) (by exact Nat.le_refl _)).mono ?_; rintro e w1 ⟨rfl, hb1⟩
            rw [Hin.out]
            go_wp2_with fail
            go_roundg (n - x + (n' - (y + 1)))
            case measure => omega
            case rel => exact ⟨x, y + 1, m, A1, c1, O, by omega, by omega, rfl, by go_num, by go_num, rfl, ownsRow_beyond Ho.out ((below_drewN_t (Below.refl _ _) _).trans hb1), by omega, Hgo', hbel.trans (((below_drewN_t (Below.refl _ _) _).trans hb1).mono hbel.size)⟩
          · have hO' : insL O vs[y] = O ++ [vs[y]] := by unfold insL; rw [if_neg hin]
            have Hin := Lib.hid (show O.contains vs[y] = false by simpa using hin)
            rw [hO'] at Hgo'
            clear hin hO'
            go_wp2_with fail
            go_quiet (fail)
            go_wp2_with fail
            refine (has_any A1 m c1 O vs[y] _ wr.heap.size (by exact HO.out.keep fun _ _ => rfl) (by exact Nat.le_refl _)).mono ?_; rintro e w1 ⟨rfl, hb1⟩
            rw [Hin.out]
            have hb2 := (below_drewN_t (Below.refl _ _) _).trans hb1
            have ho1 := ownsRow_beyond Ho.out hb2
            have hbel1 := hbel.trans (hb2.mono hbel.size)
            have cx : w1.cell? ⟨b2, o2 + y, none⟩ = some (.int .i64 vs[y]) := (hb2.cell (p := ⟨b2, o2 + y, none⟩) (by show b2 < wr.heap.size; have := hbel.size; omega)).trans x2
            clear hb1 hb2 x2
            go_wp2_with (at_builtin; refine wpList_append_one w w1 rfl (.tmp 62) (.tmp 67) 35 rfl w.heap.size 3 i0 _ 1 8 Try.underlying35 hi0 hz0 hz1 hz2 rfl (by omega) (.slice A1 m c1) m (O.map (Value.int .i64)) rfl [.int .i64 vs[y]] rfl (by intro u hu; simp at hu; subst hu; rfl) rfl ho1 (by unfold maxLen; omega) (by omega) hbel1 hbel1.size ?_; intro A2 c2 w2 ho2 hbel2 hg2 hz2')
            go_roundg (n - x + (n' - (y + 1)))
            case measure => omega
            case rel => exact ⟨x, y + 1, m + 1, A2, c2, O ++ [vs[y]], by omega, by omega, rfl, by go_num, by go_num, rfl, by rw [List.map_append]; exact ho2, by omega, Hgo', hbel2⟩
      · have dx : decide (x < n) = false := by simpa using hxn
        have Hgo' := Lib.hid ((bothGo_b (out := O) hk2 (.inl (by rw [Hl.out]; omega))).symm.trans Hgo.out)
        clear hR
        clear Hgo
        have Ho := Lib.hid ho
        have HO := Lib.hid hO
        clear ho hO
        by_cases hin : O.contains vs[y] = true
        · have hO' : insL O vs[y] = O := by unfold insL; rw [if_pos hin]
          have Hin := Lib.hid hin
          rw [hO'] at Hgo'
          clear hin hO'
          go_wp2_with fail
          go_quiet (fail)
          go_wp2_with fail
          refine (has_any A1 m c1 O vs[y] _ wr.heap.size (by exact HO.out.keep fun _ _ => rfl) (by exact Nat.le_refl _)).mono ?_; rintro e w1 ⟨rfl, hb1⟩
          rw [Hin.out]
          go_wp2_with fail
          go_roundg (n - x + (n' - (y + 1)))
          case measure => omega
          case rel => exact ⟨x, y + 1, m, A1, c1, O, by omega, by omega, rfl, by go_num, by go_num, rfl, ownsRow_beyond Ho.out ((below_drewN_t (Below.refl _ _) _).trans hb1), by omega, Hgo', hbel.trans (((below_drewN_t (Below.refl _ _) _).trans hb1).mono hbel.size)⟩
        · have hO' : insL O vs[y] = O ++ [vs[y]] := by unfold insL; rw [if_neg hin]
          have Hin := Lib.hid (show O.contains vs[y] = false by simpa using hin)
          rw [hO'] at Hgo'
          clear hin hO'
          go_wp2_with fail
          go_quiet (fail)
          go_wp2_with fail
          refine (has_any A1 m c1 O vs[y] _ wr.heap.size (by exact HO.out.keep fun _ _ => rfl) (by exact Nat.le_refl _)).mono ?_; rintro e w1 ⟨rfl, hb1⟩
          rw [Hin.out]
          have hb2 := (below_drewN_t (Below.refl _ _) _).trans hb1
          have ho1 := ownsRow_beyond Ho.out hb2
          have hbel1 := hbel.trans (hb2.mono hbel.size)
          have cx : w1.cell? ⟨b2, o2 + y, none⟩ = some (.int .i64 vs[y]) := (hb2.cell (p := ⟨b2, o2 + y, none⟩) (by show b2 < wr.heap.size; have := hbel.size; omega)).trans x2
          clear hb1 hb2 x2
          go_wp2_with (at_builtin; refine wpList_append_one w w1 rfl (.tmp 62) (.tmp 67) 35 rfl w.heap.size 3 i0 _ 1 8 Try.underlying35 hi0 hz0 hz1 hz2 rfl (by omega) (.slice A1 m c1) m (O.map (Value.int .i64)) rfl [.int .i64 vs[y]] rfl (by intro u hu; simp at hu; subst hu; rfl) rfl ho1 (by unfold maxLen; omega) (by omega) hbel1 hbel1.size ?_; intro A2 c2 w2 ho2 hbel2 hg2 hz2')
          go_roundg (n - x + (n' - (y + 1)))
          case measure => omega
          case rel => exact ⟨x, y + 1, m + 1, A2, c2, O ++ [vs[y]], by omega, by omega, rfl, by go_num, by go_num, rfl, by rw [List.map_append]; exact ho2, by omega, Hgo', hbel2⟩
    · have dy : decide (n' ≤ y) = true := by simp; omega
      clear hR'
      by_cases hxn : x < n
      · obtain ⟨b1, o1, rfl, hb1, hc1⟩ := hR.at_ (by omega)
        have hk1 : x < us.length := by rw [Hl.out]; exact hxn
        have x1 := hc1 x hk1
        have ix2 : (x : Int) < (n : Int) := by omega
        have dx : decide (x < n) = true := by simpa using hxn
        clear hc1 hR
        have Hgo' := Lib.hid ((bothGo_a (out := O) hk1 (.inl (by rw [Hl'.out]; omega))).symm.trans Hgo.out)
        clear Hgo
        have Ho := Lib.hid ho
        have HO := Lib.hid hO
        clear ho hO
        by_cases hin : O.contains us[x] = true
        · have hO' : insL O us[x] = O := by unfold insL; rw [if_pos hin]
          have Hin := Lib.hid hin
          rw [hO'] at Hgo'
          clear hin hO'
          go_wp2_with fail
          go_quiet (fail)
          go_wp2_with fail
          refine (has_any A1 m c1 O us[x] _ wr.heap.size (by exact HO.out.keep fun _ _ => rfl) (by exact Nat.le_refl _)).mono ?_; rintro e w1 ⟨rfl, hb1⟩
          rw [Hin.out]
          go_wp2_with fail
          go_roundg (n - (x + 1) + (n' - y))
          case measure => omega
          case rel => exact ⟨x + 1, y, m, A1, c1, O, by omega, by omega, rfl, by go_num, by go_num, rfl, ownsRow_beyond Ho.out ((below_drewN_t (Below.refl _ _) _).trans hb1), by omega, Hgo', hbel.trans (((below_drewN_t (Below.refl _ _) _).trans hb1).mono hbel.size)⟩
        · have hO' : insL O us[x] = O ++ [us[x]] := by unfold insL; rw [if_neg hin]
          have Hin := Lib.hid (show O.contains us[x] = false by simpa using hin)
          rw [hO'] at Hgo'
          clear hin hO'
          go_wp2_with fail
          go_quiet (fail)
          go_wp2_with fail
          refine (has_any A1 m c1 O us[x] _ wr.heap.size (by exact HO.out.keep fun _ _ => rfl) (by exact Nat.le_refl _)).mono ?_; rintro e w1 ⟨rfl, hb1⟩
          rw [Hin.out]
          have hb2 := (below_drewN_t (Below.refl _ _) _).trans hb1
          have ho1 := ownsRow_beyond Ho.out hb2
          have hbel1 := hbel.trans (hb2.mono hbel.size)
          have cx : w1.cell? ⟨b1, o1 + x, none⟩ = some (.int .i64 us[x]) := (hb2.cell (p := ⟨b1, o1 + x, none⟩) (by show b1 < wr.heap.size; have := hbel.size; omega)).trans x1
          clear hb1 hb2 x1
          go_wp2_with (at_builtin; refine wpList_append_one w w1 rfl (.tmp 46) (.tmp 51) 35 rfl w.heap.size 3 i0 _ 1 8 Try.underlying35 hi0 hz0 hz1 hz2 rfl (by omega) (.slice A1 m c1) m (O.map (Value.int .i64)) rfl [.int .i64 us[x]] rfl (by intro u hu; simp at hu; subst hu; rfl) rfl ho1 (by unfold maxLen; omega) (by omega) hbel1 hbel1.size ?_; intro A2 c2 w2 ho2 hbel2 hg2 hz2')
          go_roundg (n - (x + 1) + (n' - y))
          case measure => omega
          case rel => exact ⟨x + 1, y, m + 1, A2, c2, O ++ [us[x]], by omega, by omega, rfl, by go_num, by go_num, rfl, by rw [List.map_append]; exact ho2, by omega, Hgo', hbel2⟩
      · have hf : O = bothGo us vs [] := by
          have := Hgo.out
          rw [List.drop_of_length_le (by rw [Hl.out]; omega), List.drop_of_length_le (by rw [Hl'.out]; omega), bothGo] at this
          exact this
        rw [hf] at hO
        clear hf hR
        go_wp2_with fail
        go_ret
        exact ⟨A1, m, c1, rfl, hO, hbel⟩

end Go.Proofs.Ytimlbpjdgnapoaa
