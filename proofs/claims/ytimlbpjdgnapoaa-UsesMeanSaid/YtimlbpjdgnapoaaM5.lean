/- Texts of this claim, laid one behind the other: RefU, RefV, RefW, PlB, PlC, RefSc. -/
import Derived.Test.YtimlbpjdgnapoaaM4
import Derived.Deep.QuietTactic
import Derived.BigQuiet
/- The contract of usufructref02.both. -/
namespace Go.Proofs.Ytimlbpjdgnapoaa
set_option linter.unusedVariables false
set_option linter.unusedSimpArgs false
open Go.RowKit

/-- one round of the loop -/
theorem bothGo_a {a b out : List Int} {i k : Nat} (hi : i < a.length) (h : b.length ≤ k ∨ ∃ hk : k < b.length, a[i] ≤ b[k]) : bothGo (a.drop i) (b.drop k) out = bothGo (a.drop (i + 1)) (b.drop k) (insL out a[i]) := by
  rw [List.drop_eq_getElem_cons hi]
  rcases h with h | ⟨hk, h⟩
  · rw [List.drop_of_length_le h, bothGo]
  · rw [List.drop_eq_getElem_cons hk, bothGo, if_pos h]
theorem bothGo_b {a b out : List Int} {i k : Nat} (hk : k < b.length) (h : a.length ≤ i ∨ ∃ hi : i < a.length, ¬ a[i] ≤ b[k]) : bothGo (a.drop i) (b.drop k) out = bothGo (a.drop i) (b.drop (k + 1)) (insL out b[k]) := by
  rw [List.drop_eq_getElem_cons hk]
  rcases h with h | ⟨hi, h⟩
  · rw [List.drop_of_length_le h, bothGo]
  · rw [List.drop_eq_getElem_cons hi, bothGo, if_neg h]
theorem insL_le (out : List Int) (x : Int) : (insL out x).length ≤ out.length + 1 := by
  unfold insL; split <;> simp

set_option maxHeartbeats 2000000 in
theorem both_any (A : Option Addr) (n c : Nat) (us : List Int) (A' : Option Addr) (n' c' : Nat) (vs : List Int) (w : World) (B B' : Nat) (h : RdI .i64 w B A n c us) (h' : RdI .i64 w B' A' n' c' vs) (hB : B ≤ w.heap.size) (hB' : B' ≤ w.heap.size) (hbig : n + n' ≤ 1099511627776) :
    Calls Try.prog 85 #[.slice A n c, .slice A' n' c'] w (RetI .i64 (bothGo us vs []) w) := by
  have hl := h.len
  have hl' := h'.len
  have Hl := Lib.hid hl
  have Hl' := Lib.hid hl'
  clear hl hl'
  obtain ⟨i0, hi0, hz0, hz1, hz2⟩ := info_parts (show (Try.prog.info? 3).map (fun i => (i.zero, i.size, i.bytes)) = some (some (.int .i64 0), 1, 8) from by kernel_rfl)
  have Hr := Lib.hid (h.more hB)
  have Hr' := Lib.hid (h'.more hB')
  clear h h'
  go_enter Try.func85, Try.ntmps85
  go_wp2_with fail
  go_loopg [5, 6, 7] (n + n') (fun g o i k wr => ∃ (x y m : Nat) (A1 : Option Addr) (c1 : Nat) (O : List Int), x ≤ n ∧ y ≤ n' ∧ g = (n - x) + (n' - y) ∧ i = .int .i64 x ∧ k = .int .i64 y ∧ o = .slice A1 m c1 ∧
    wr.ownsRow w.heap.size 3 1 (.slice A1 m c1) m (O.map (Value.int .i64)) ∧ m ≤ x + y ∧ Hid (bothGo (us.drop x) (vs.drop y) O = bothGo us vs []) ∧ Below w.heap.size w wr)
  case atStart => exact ⟨0, 0, 0, none, 0, [], Nat.zero_le _, Nat.zero_le _, by omega, rfl, rfl, rfl, World.ownsRow_nil _ _ _ _, Nat.zero_le _, Lib.hid rfl, Below.refl _ _⟩
  case round =>
    obtain ⟨x, y, m, A1, c1, O, hx, hy, rfl, rfl, rfl, rfl, ho, hm, Hgo, hbel⟩ := hrel
    have hn63 : n ≤ 9223372036854775807 := by omega
    have hn63' : n' ≤ 9223372036854775807 := by omega
    have hR := Hr.out.below hbel
    have hR' := Hr'.out.below hbel
    have hO := RdI.of_own ho
    have ix : (0 : Int) ≤ (x : Int) := by omega
    have iy : (0 : Int) ≤ (y : Int) := by omega
    by_cases hyn : y < n'
    · obtain ⟨b2, o2, rfl, hb2, hc2⟩ := hR'.at_ (by omega)
      have hk2 : y < vs.length := by rw [Hl'.out]; exact hyn
      have x2 := hc2 y hk2
      have iy2 : (y : Int) < (n' : Int) := by omega
      have dy : decide (n' ≤ y) = false := by simpa using hyn
      clear hc2 hR'
      by_cases hxn : x < n
      · obtain ⟨b1, o1, rfl, hb1, hc1⟩ := hR.at_ (by omega)
        have hk1 : x < us.length := by rw [Hl.out]; exact hxn
        have x1 := hc1 x hk1
        have ix2 : (x : Int) < (n : Int) := by omega
        have dx : decide (x < n) = true := by simpa using hxn
        clear hc1 hR
        by_cases hle : us[x] ≤ vs[y]
        · have dl : decide (us[x] ≤ vs[y]) = true := by simpa using hle
          have Hgo' := Lib.hid ((bothGo_a (out := O) hk1 (.inr ⟨hk2, hle⟩)).symm.trans Hgo.out)
          clear Hgo
          have Ho := Lib.hid ho
          have HO := Lib.hid hO
          clear ho hO
          by_cases hin : O.contains us[x] = true
          · have hO' : insL O us[x] = O := by unfold insL; rw [if_pos hin]
            have Hin := Lib.hid hin
            rw [hO'] at Hgo'
            clear hin hO'
            go_wp2_with fail
            go_quiet (fail)
            go_wp2_with fail
            refine (has_any A1 m c1 O us[x] _ wr.heap.size (by exact HO.out.keep fun _ _ => rfl) (by exact Nat.le_refl _)).mono ?_; rintro e w1 ⟨rfl, hb1⟩
            rw [Hin.out]
            go_wp2_with fail
            go_roundg (n - (x + 1) + (n' - y))
            case measure => omega
            case rel => exact ⟨x + 1, y, m, A1, c1, O, by omega, by omega, rfl, by go_num, by go_num, rfl, ownsRow_beyond Ho.out ((below_drewN_t (Below.refl _ _) _).trans hb1), by omega, Hgo', hbel.trans (((below_drewN_t (Below.refl _ _) _).trans hb1).mono hbel.size)⟩
          · have hO' : insL O us[x] = O ++ [us[x]] := by unfold insL; rw [if_neg hin]
            have Hin := Lib.hid (show O.contains us[x] = false by simpa using hin)
            rw [hO'] at Hgo'
            clear hin hO'
            go_wp2_with fail
            go_quiet (fail)
            go_wp2_with fail
            refine (has_any A1 m c1 O us[x] _ wr.heap.size (by exact HO.out.keep fun _ _ => rfl) (by exact Nat.le_refl _)).mono ?_; rintro e w1 ⟨rfl, hb1⟩
            rw [Hin.out]
            have hb2 := (below_drewN_t (Below.refl _ _) _).trans hb1
            have ho1 := ownsRow_beyond Ho.out hb2
            have hbel1 := hbel.trans (hb2.mono hbel.size)
            have cx : w1.cell? ⟨b1, o1 + x, none⟩ = some (.int .i64 us[x]) := (hb2.cell (p := ⟨b1, o1 + x, none⟩) (by show b1 < wr.heap.size; have := hbel.size; omega)).trans x1
            clear hb1 hb2 x1
            go_wp2_with (at_builtin; refine wpList_append_one w w1 rfl (.tmp 46) (.tmp 51) 35 rfl w.heap.size 3 i0 _ 1 8 Try.underlying35 hi0 hz0 hz1 hz2 rfl (by omega) (.slice A1 m c1) m (O.map (Value.int .i64)) rfl [.int .i64 us[x]] rfl (by intro u hu; simp at hu; subst hu; rfl) rfl ho1 (by unfold maxLen; omega) (by omega) hbel1 hbel1.size ?_; intro A2 c2 w2 ho2 hbel2 hg2 hz2')
            go_roundg (n - (x + 1) + (n' - y))
            case measure => omega
            case rel => exact ⟨x + 1, y, m + 1, A2, c2, O ++ [us[x]], by omega, by omega, rfl, by go_num, by go_num, rfl, by rw [List.map_append]; exact ho2, by omega, Hgo', hbel2⟩
        · have dl : decide (us[x] ≤ vs[y]) = false := by simpa using hle
          have Hgo' := Lib.hid ((bothGo_b (out := O) hk2 (.inr ⟨hk1, hle⟩)).symm.trans Hgo.out)
          clear Hgo
          have Ho := Lib.hid ho
          have HO := Lib.hid hO
          clear ho hO
          by_cases hin : O.contains vs[y] = true
          · have hO' : insL O vs[y] = O := by unfold insL; rw [if_pos hin]
            have Hin := Lib.hid hin
            rw [hO'] at Hgo'
            clear hin hO'
            go_wp2_with fail
            go_quiet (fail)
            go_wp2_with fail
            refine (has_any A1 m c1 O vs[y] _ wr.heap.size (by exact HO.out.keep fun _ _ => rfl) (by exact Nat.le_refl _)).mono ?_; rintro e w1 ⟨rfl, hb1⟩
            rw [Hin.out]
            go_wp2_with fail
            go_roundg (n - x + (n' - (y + 1)))
            case measure => omega
            case rel => exact ⟨x, y + 1, m, A1, c1, O, by omega, by omega, rfl, by go_num, by go_num, rfl, ownsRow_beyond Ho.out ((below_drewN_t (Below.refl _ _) _).trans hb1), by omega, Hgo', hbel.trans (((below_drewN_t (Below.refl _ _) _).trans hb1).mono hbel.size)⟩
          · have hO' : insL O vs[y] = O ++ [vs[y]] := by unfold insL; rw [if_neg hin]
            have Hin := Lib.hid (show O.contains vs[y] = false by simpa using hin)
            rw [hO'] at Hgo'
            clear hin hO'
            go_wp2_with fail
            go_quiet (fail)
            go_wp2_with fail
            refine (has_any A1 m c1 O vs[y] _ wr.heap.size (by exact HO.out.keep fun _ _ => rfl) (by exact Nat.le_refl _)).mono ?_; rintro e w1 ⟨rfl, hb1⟩
            rw [Hin.out]
            have hb2 := (below_drewN_t (Below.refl _ _) _).trans hb1
            have ho1 := ownsRow_beyond Ho.out hb2
            have hbel1 := hbel.trans (hb2.mono hbel.size)
            have cx : w1.cell? ⟨b2, o2 + y, none⟩ = some (.int .i64 vs[y]) := (hb2.cell (p := ⟨b2, o2 + y, none⟩) (by show b2 < wr.heap.size; have := hbel.size; omega)).trans x2
            clear hb1 hb2 x2
            go_wp2_with (at_builtin; refine wpList_append_one w w1 rfl (.tmp 62) (.tmp 67) 35 rfl w.heap.size 3 i0 _ 1 8 Try.underlying35 hi0 hz0 hz1 hz2 rfl (by omega) (.slice A1 m c1) m (O.map (Value.int .i64)) rfl [.int .i64 vs[y]] rfl (by intro u hu; simp at hu; subst hu; rfl) rfl ho1 (by unfold maxLen; omega) (by omega) hbel1 hbel1.size ?_; intro A2 c2 w2 ho2 hbel2 hg2 hz2')
            go_roundg (n - x + (n' - (y + 1)))
            case measure => omega
            case rel => exact ⟨x, y + 1, m + 1, A2, c2, O ++ [vs[y]], by omega, by omega, rfl, by go_num, by go_num, rfl, by rw [List.map_append]; exact ho2, by omega, Hgo', hbel2⟩
      · have dx : decide (x < n) = false := by simpa using hxn
        have Hgo' := Lib.hid ((bothGo_b (out := O) hk2 (.inl (by rw [Hl.out]; omega))).symm.trans Hgo.out)
        clear hR
        clear Hgo
        have Ho := Lib.hid ho
        have HO := Lib.hid hO
        clear ho hO
        by_cases hin : O.contains vs[y] = true
        · have hO' : insL O vs[y] = O := by unfold insL; rw [if_pos hin]
          have Hin := Lib.hid hin
          rw [hO'] at Hgo'
          clear hin hO'
          go_wp2_with fail
          go_quiet (fail)
          go_wp2_with fail
          refine (has_any A1 m c1 O vs[y] _ wr.heap.size (by exact HO.out.keep fun _ _ => rfl) (by exact Nat.le_refl _)).mono ?_; rintro e w1 ⟨rfl, hb1⟩
          rw [Hin.out]
          go_wp2_with fail
          go_roundg (n - x + (n' - (y + 1)))
          case measure => omega
          case rel => exact ⟨x, y + 1, m, A1, c1, O, by omega, by omega, rfl, by go_num, by go_num, rfl, ownsRow_beyond Ho.out ((below_drewN_t (Below.refl _ _) _).trans hb1), by omega, Hgo', hbel.trans (((below_drewN_t (Below.refl _ _) _).trans hb1).mono hbel.size)⟩
        · have hO' : insL O vs[y] = O ++ [vs[y]] := by unfold insL; rw [if_neg hin]
          have Hin := Lib.hid (show O.contains vs[y] = false by simpa using hin)
          rw [hO'] at Hgo'
          clear hin hO'
          go_wp2_with fail
          go_quiet (fail)
          go_wp2_with fail
          refine (has_any A1 m c1 O vs[y] _ wr.heap.size (by exact HO.out.keep fun _ _ => rfl) (by exact Nat.le_refl _)).mono ?_; rintro e w1 ⟨rfl, hb1⟩
          rw [Hin.out]
          have hb2 := (below_drewN_t (Below.refl _ _) _).trans hb1
          have ho1 := ownsRow_beyond Ho.out hb2
          have hbel1 := hbel.trans (hb2.mono hbel.size)
          have cx : w1.cell? ⟨b2, o2 + y, none⟩ = some (.int .i64 vs[y]) := (hb2.cell (p := ⟨b2, o2 + y, none⟩) (by show b2 < wr.heap.size; have := hbel.size; omega)).trans x2
          clear hb1 hb2 x2
          go_wp2_with (at_builtin; refine wpList_append_one w w1 rfl (.tmp 62) (.tmp 67) 35 rfl w.heap.size 3 i0 _ 1 8 Try.underlying35 hi0 hz0 hz1 hz2 rfl (by omega) (.slice A1 m c1) m (O.map (Value.int .i64)) rfl [.int .i64 vs[y]] rfl (by intro u hu; simp at hu; subst hu; rfl) rfl ho1 (by unfold maxLen; omega) (by omega) hbel1 hbel1.size ?_; intro A2 c2 w2 ho2 hbel2 hg2 hz2')
          go_roundg (n - x + (n' - (y + 1)))
          case measure => omega
          case rel => exact ⟨x, y + 1, m + 1, A2, c2, O ++ [vs[y]], by omega, by omega, rfl, by go_num, by go_num, rfl, by rw [List.map_append]; exact ho2, by omega, Hgo', hbel2⟩
    · have dy : decide (n' ≤ y) = true := by simp; omega
      clear hR'
      by_cases hxn : x < n
      · obtain ⟨b1, o1, rfl, hb1, hc1⟩ := hR.at_ (by omega)
        have hk1 : x < us.length := by rw [Hl.out]; exact hxn
        have x1 := hc1 x hk1
        have ix2 : (x : Int) < (n : Int) := by omega
        have dx : decide (x < n) = true := by simpa using hxn
        clear hc1 hR
        have Hgo' := Lib.hid ((bothGo_a (out := O) hk1 (.inl (by rw [Hl'.out]; omega))).symm.trans Hgo.out)
        clear Hgo
        have Ho := Lib.hid ho
        have HO := Lib.hid hO
        clear ho hO
        by_cases hin : O.contains us[x] = true
        · have hO' : insL O us[x] = O := by unfold insL; rw [if_pos hin]
          have Hin := Lib.hid hin
          rw [hO'] at Hgo'
          clear hin hO'
          go_wp2_with fail
          go_quiet (fail)
          go_wp2_with fail
          refine (has_any A1 m c1 O us[x] _ wr.heap.size (by exact HO.out.keep fun _ _ => rfl) (by exact Nat.le_refl _)).mono ?_; rintro e w1 ⟨rfl, hb1⟩
          rw [Hin.out]
          go_wp2_with fail
          go_roundg (n - (x + 1) + (n' - y))
          case measure => omega
          case rel => exact ⟨x + 1, y, m, A1, c1, O, by omega, by omega, rfl, by go_num, by go_num, rfl, ownsRow_beyond Ho.out ((below_drewN_t (Below.refl _ _) _).trans hb1), by omega, Hgo', hbel.trans (((below_drewN_t (Below.refl _ _) _).trans hb1).mono hbel.size)⟩
        · have hO' : insL O us[x] = O ++ [us[x]] := by unfold insL; rw [if_neg hin]
          have Hin := Lib.hid (show O.contains us[x] = false by simpa using hin)
          rw [hO'] at Hgo'
          clear hin hO'
          go_wp2_with fail
          go_quiet (fail)
          go_wp2_with fail
          refine (has_any A1 m c1 O us[x] _ wr.heap.size (by exact HO.out.keep fun _ _ => rfl) (by exact Nat.le_refl _)).mono ?_; rintro e w1 ⟨rfl, hb1⟩
          rw [Hin.out]
          have hb2 := (below_drewN_t (Below.refl _ _) _).trans hb1
          have ho1 := ownsRow_beyond Ho.out hb2
          have hbel1 := hbel.trans (hb2.mono hbel.size)
          have cx : w1.cell? ⟨b1, o1 + x, none⟩ = some (.int .i64 us[x]) := (hb2.cell (p := ⟨b1, o1 + x, none⟩) (by show b1 < wr.heap.size; have := hbel.size; omega)).trans x1
          clear hb1 hb2 x1
          go_wp2_with (at_builtin; refine wpList_append_one w w1 rfl (.tmp 46) (.tmp 51) 35 rfl w.heap.size 3 i0 _ 1 8 Try.underlying35 hi0 hz0 hz1 hz2 rfl (by omega) (.slice A1 m c1) m (O.map (Value.int .i64)) rfl [.int .i64 us[x]] rfl (by intro u hu; simp at hu; subst hu; rfl) rfl ho1 (by unfold maxLen; omega) (by omega) hbel1 hbel1.size ?_; intro A2 c2 w2 ho2 hbel2 hg2 hz2')
          go_roundg (n - (x + 1) + (n' - y))
          case measure => omega
          case rel => exact ⟨x + 1, y, m + 1, A2, c2, O ++ [us[x]], by omega, by omega, rfl, by go_num, by go_num, rfl, by rw [List.map_append]; exact ho2, by omega, Hgo', hbel2⟩
      · have hf : O = bothGo us vs [] := by
          have := Hgo.out
          rw [List.drop_of_length_le (by rw [Hl.out]; omega), List.drop_of_length_le (by rw [Hl'.out]; omega), bothGo] at this
          exact this
        rw [hf] at hO
        clear hf hR
        go_wp2_with fail
        go_ret
        exact ⟨A1, m, c1, rfl, hO, hbel⟩

end Go.Proofs.Ytimlbpjdgnapoaa

/- The contracts of usufructref02.greatest, Join, Sum. -/
namespace Go.Proofs.Ytimlbpjdgnapoaa
set_option linter.unusedVariables false
set_option linter.unusedSimpArgs false
open Go.RowKit

/-- three blocks that a function of two terms begins with: its parameters and its result -/
def T3 (a b : TermD) (A A' : Option Addr) (n c n' c' : Nat) (w : World) : World :=
  ((w.alloc (Obj.cells #[.bool a.never, .int .u8 a.c, .slice A n c] 37)).alloc (Obj.cells #[.bool b.never, .int .u8 b.c, .slice A' n' c'] 37)).alloc (Obj.cells #[.bool false, .int .u8 0, .slice none 0 0] 37)
theorem T3_facts (a b : TermD) (A A' : Option Addr) (n c n' c' : Nat) (w : World) : Below w.heap.size w (T3 a b A A' n c n' c' w) ∧ (T3 a b A A' n c n' c' w).heap.size = w.heap.size + 3 ∧
    Blk (T3 a b A A' n c n' c' w) w.heap.size 37 #[.bool a.never, .int .u8 a.c, .slice A n c] ∧ Blk (T3 a b A A' n c n' c' w) (w.heap.size + 1) 37 #[.bool b.never, .int .u8 b.c, .slice A' n' c'] ∧
    Blk (T3 a b A A' n c n' c' w) (w.heap.size + 1 + 1) 37 #[.bool false, .int .u8 0, .slice none 0 0] := by
  refine ⟨(((Below.refl _ _).alloc (Nat.le_refl _) _).alloc (by simp) _).alloc (by simp; omega) _, by simp [T3], ((blk_new _ _ _).alloc _).alloc _, ?_, ?_⟩
  · have := (blk_new (w.alloc (Obj.cells #[.bool a.never, .int .u8 a.c, .slice A n c] 37)) #[.bool b.never, .int .u8 b.c, .slice A' n' c'] 37).alloc (Obj.cells #[.bool false, .int .u8 0, .slice none 0 0] 37)
    rw [World.size_alloc] at this
    exact this
  · have := blk_new ((w.alloc (Obj.cells #[.bool a.never, .int .u8 a.c, .slice A n c] 37)).alloc (Obj.cells #[.bool b.never, .int .u8 b.c, .slice A' n' c'] 37)) #[.bool false, .int .u8 0, .slice none 0 0] 37
    rw [World.size_alloc, World.size_alloc] at this
    exact this


set_option maxHeartbeats 1000000 in
theorem great_any_t (v1 v2 : Value) (a b : TermD) (w : World) (B B' : Nat) (h1 : TermV w B v1 a) (h2 : TermV w B' v2 b) (hB : B ≤ w.heap.size) (hB' : B' ≤ w.heap.size) (hbig : a.vars.length + b.vars.length ≤ 1099511627776) :
    Calls Try.prog 75 #[v1, v2] w (RetT (greatT a b) w) := by
  obtain ⟨A, n, c, rfl, hr⟩ := h1
  obtain ⟨A', n', c', rfl, hr'⟩ := h2
  have hl := hr.len
  have hl' := hr'.len
  rw [hl, hl'] at hbig
  have Hl := Lib.hid hl
  have Hl' := Lib.hid hl'
  clear hl hl'
  have ⟨hbel0, hsz0, ha0, hb0, hz0⟩ := T3_facts a b A A' n c n' c' w
  have hr0 := (hr.more hB).below hbel0
  have hr0' := (hr'.more hB').below hbel0
  have hT0 : T3 a b A A' n c n' c' w = ((w.alloc (Obj.cells #[.bool a.never, .int .u8 a.c, .slice A n c] 37)).alloc (Obj.cells #[.bool b.never, .int .u8 b.c, .slice A' n' c'] 37)).alloc (Obj.cells #[.bool false, .int .u8 0, .slice none 0 0] 37) := rfl
  generalize T3 a b A A' n c n' c' w = w2 at hbel0 hsz0 ha0 hb0 hz0 hr0 hr0' hT0
  have HT0 := Lib.hid hT0
  clear hT0
  have a0 : w2.cell? ⟨w.heap.size, 0, none⟩ = some (.bool a.never) := ha0.cell 0
  have a1 : w2.cell? ⟨w.heap.size, 1, none⟩ = some (.int .u8 a.c) := ha0.cell 1
  have a2 : w2.cell? ⟨w.heap.size, 2, none⟩ = some (.slice A n c) := ha0.cell 2
  have b0 : w2.cell? ⟨w.heap.size + 1, 0, none⟩ = some (.bool b.never) := hb0.cell 0
  have b1 : w2.cell? ⟨w.heap.size + 1, 1, none⟩ = some (.int .u8 b.c) := hb0.cell 1
  have b2 : w2.cell? ⟨w.heap.size + 1, 2, none⟩ = some (.slice A' n' c') := hb0.cell 2
  have hc2 := both_any A n c a.vars A' n' c' b.vars w2 _ _ hr0 hr0' (by omega) (by omega) hbig
  have Hc2 := Lib.hid hc2
  clear hc2 hr hr' hr0 hr0'
  have z0 : w2.cell? ⟨w.heap.size + 1 + 1, 0, none⟩ = some (.bool false) := hz0.cell 0
  have z1 : w2.cell? ⟨w.heap.size + 1 + 1, 1, none⟩ = some (.int .u8 0) := hz0.cell 1
  have z2 : w2.cell? ⟨w.heap.size + 1 + 1, 2, none⟩ = some (.slice none 0 0) := hz0.cell 2
  have f0 := hz0.frozen 0
  have f1 := hz0.frozen 1
  have f2 := hz0.frozen 2
  have hle : w.heap.size ≤ w.heap.size + 1 + 1 := by omega
  have hm : (a.c < b.c ∧ max a.c b.c = b.c) ∨ (¬ a.c < b.c ∧ max a.c b.c = a.c) := by omega
  obtain ⟨C, hC⟩ : ∃ C, max a.c b.c = C := ⟨_, rfl⟩
  rw [hC] at hm
  have hg : greatT a b = if C = 3 then ⟨false, 3, []⟩ else ⟨false, C, bothGo a.vars b.vars []⟩ := by unfold greatT; rw [hC]
  rw [hg]
  clear hg hC
  rcases hm with ⟨h, e⟩ | ⟨h, e⟩
  · have hd : decide (a.c < b.c) = true := by simpa using h
    subst e
    clear h
    by_cases h3 : b.c = 3
    · rw [if_pos h3]
      have h3' : (b.c == 3) = true := by simp [h3]
      clear h3 Hc2
      have hbx := (T3_facts a b A A' n c n' c' w).1
      go_enter Try.func75, Try.ntmps75
      go_wp2_with fail
      have hb3 : Below w.heap.size w (((w.alloc (Obj.cells #[.bool a.never, .int .u8 a.c, .slice A n c] 37)).alloc (Obj.cells #[.bool b.never, .int .u8 b.c, .slice A' n' c'] 37)).alloc (Obj.cells #[.bool false, .int .u8 3, .slice none 0 0] 37)) :=
        (((Below.refl _ _).alloc (Nat.le_refl _) _).alloc (by simp) _).alloc (by simp; omega) _
      exact bodyPost_ret (v := .agg #[.bool false, .int .u8 3, .slice none 0 0]) (by simp [results, Try.results75, go_sem]) rfl ⟨none, 0, 0, rfl, RdI.nil, hb3⟩
    · rw [if_neg h3]
      have h3' : (b.c == 3) = false := by simp [h3]
      clear h3
      go_enter Try.func75, Try.ntmps75
      go_wp2_with fail
      rw [← HT0.out]
      refine Hc2.out.mono ?_
      rintro e w3 ⟨A3, n3, c3, rfl, hr3, hb3⟩
      have hz3 := hz0.below hb3 hz0.lt
      have hbel3 := hbel0.trans (hb3.mono hbel0.size)
      have z0 : w3.cell? ⟨w.heap.size + 1 + 1, 0, none⟩ = some (.bool false) := hz3.cell 0
      have z1 : w3.cell? ⟨w.heap.size + 1 + 1, 1, none⟩ = some (.int .u8 0) := hz3.cell 1
      have z2 : w3.cell? ⟨w.heap.size + 1 + 1, 2, none⟩ = some (.slice none 0 0) := hz3.cell 2
      have f0 := hz3.frozen 0
      have f1 := hz3.frozen 1
      have f2 := hz3.frozen 2
      clear hb3
      go_wp2_with fail
      have hs := hz3.set3 (.bool false) (.int .u8 b.c) (.slice A3 n3 c3)
      have hb3 := ((hbel3.setCell (p := ⟨w.heap.size + 1 + 1, 0, none⟩) hle (.bool false)).setCell (p := ⟨w.heap.size + 1 + 1, 1, none⟩) hle (.int .u8 b.c)).setCell (p := ⟨w.heap.size + 1 + 1, 2, none⟩) hle (.slice A3 n3 c3)
      have hr9 := (hr3.put3 hz3 (.bool false) (.int .u8 b.c) (.slice A3 n3 c3)).more (B' := (((w3.setCell ⟨w.heap.size + 1 + 1, 0, none⟩ (.bool false)).setCell ⟨w.heap.size + 1 + 1, 1, none⟩ (.int .u8 b.c)).setCell ⟨w.heap.size + 1 + 1, 2, none⟩ (.slice A3 n3 c3)).heap.size) (by simp)
      generalize (((w3.setCell ⟨w.heap.size + 1 + 1, 0, none⟩ (.bool false)).setCell ⟨w.heap.size + 1 + 1, 1, none⟩ (.int .u8 b.c)).setCell ⟨w.heap.size + 1 + 1, 2, none⟩ (.slice A3 n3 c3)) = W3 at hs hb3 hr9 ⊢
      have d0 : W3.cell? ⟨w.heap.size + 1 + 1, 0, none⟩ = some (.bool false) := hs.cell 0
      have d1 : W3.cell? ⟨w.heap.size + 1 + 1, 1, none⟩ = some (.int .u8 b.c) := hs.cell 1
      have d2 : W3.cell? ⟨w.heap.size + 1 + 1, 2, none⟩ = some (.slice A3 n3 c3) := hs.cell 2
      exact bodyPost_ret (v := .agg #[.bool false, .int .u8 b.c, .slice A3 n3 c3]) (by simp [results, Try.results75, go_sem, d0, d1, d2]) rfl ⟨_, _, _, rfl, hr9, hb3⟩
  · have hd : decide (a.c < b.c) = false := by simpa using h
    subst e
    clear h
    by_cases h3 : a.c = 3
    · rw [if_pos h3]
      have h3' : (a.c == 3) = true := by simp [h3]
      clear h3 Hc2
      have hbx := (T3_facts a b A A' n c n' c' w).1
      go_enter Try.func75, Try.ntmps75
      go_wp2_with fail
      have hb3 : Below w.heap.size w (((w.alloc (Obj.cells #[.bool a.never, .int .u8 a.c, .slice A n c] 37)).alloc (Obj.cells #[.bool b.never, .int .u8 b.c, .slice A' n' c'] 37)).alloc (Obj.cells #[.bool false, .int .u8 3, .slice none 0 0] 37)) :=
        (((Below.refl _ _).alloc (Nat.le_refl _) _).alloc (by simp) _).alloc (by simp; omega) _
      exact bodyPost_ret (v := .agg #[.bool false, .int .u8 3, .slice none 0 0]) (by simp [results, Try.results75, go_sem]) rfl ⟨none, 0, 0, rfl, RdI.nil, hb3⟩
    · rw [if_neg h3]
      have h3' : (a.c == 3) = false := by simp [h3]
      clear h3
      go_enter Try.func75, Try.ntmps75
      go_wp2_with fail
      rw [← HT0.out]
      refine Hc2.out.mono ?_
      rintro e w3 ⟨A3, n3, c3, rfl, hr3, hb3⟩
      have hz3 := hz0.below hb3 hz0.lt
      have hbel3 := hbel0.trans (hb3.mono hbel0.size)
      have z0 : w3.cell? ⟨w.heap.size + 1 + 1, 0, none⟩ = some (.bool false) := hz3.cell 0
      have z1 : w3.cell? ⟨w.heap.size + 1 + 1, 1, none⟩ = some (.int .u8 0) := hz3.cell 1
      have z2 : w3.cell? ⟨w.heap.size + 1 + 1, 2, none⟩ = some (.slice none 0 0) := hz3.cell 2
      have f0 := hz3.frozen 0
      have f1 := hz3.frozen 1
      have f2 := hz3.frozen 2
      clear hb3
      go_wp2_with fail
      have hs := hz3.set3 (.bool false) (.int .u8 a.c) (.slice A3 n3 c3)
      have hb3 := ((hbel3.setCell (p := ⟨w.heap.size + 1 + 1, 0, none⟩) hle (.bool false)).setCell (p := ⟨w.heap.size + 1 + 1, 1, none⟩) hle (.int .u8 a.c)).setCell (p := ⟨w.heap.size + 1 + 1, 2, none⟩) hle (.slice A3 n3 c3)
      have hr9 := (hr3.put3 hz3 (.bool false) (.int .u8 a.c) (.slice A3 n3 c3)).more (B' := (((w3.setCell ⟨w.heap.size + 1 + 1, 0, none⟩ (.bool false)).setCell ⟨w.heap.size + 1 + 1, 1, none⟩ (.int .u8 a.c)).setCell ⟨w.heap.size + 1 + 1, 2, none⟩ (.slice A3 n3 c3)).heap.size) (by simp)
      generalize (((w3.setCell ⟨w.heap.size + 1 + 1, 0, none⟩ (.bool false)).setCell ⟨w.heap.size + 1 + 1, 1, none⟩ (.int .u8 a.c)).setCell ⟨w.heap.size + 1 + 1, 2, none⟩ (.slice A3 n3 c3)) = W3 at hs hb3 hr9 ⊢
      have d0 : W3.cell? ⟨w.heap.size + 1 + 1, 0, none⟩ = some (.bool false) := hs.cell 0
      have d1 : W3.cell? ⟨w.heap.size + 1 + 1, 1, none⟩ = some (.int .u8 a.c) := hs.cell 1
      have d2 : W3.cell? ⟨w.heap.size + 1 + 1, 2, none⟩ = some (.slice A3 n3 c3) := hs.cell 2
      exact bodyPost_ret (v := .agg #[.bool false, .int .u8 a.c, .slice A3 n3 c3]) (by simp [results, Try.results75, go_sem, d0, d1, d2]) rfl ⟨_, _, _, rfl, hr9, hb3⟩

end Go.Proofs.Ytimlbpjdgnapoaa

/- The contracts of usufructref02.Join, Sum. -/
namespace Go.Proofs.Ytimlbpjdgnapoaa
set_option linter.unusedVariables false
set_option linter.unusedSimpArgs false
open Go.RowKit


set_option maxHeartbeats 1000000 in
theorem refJoin_t (v1 v2 : Value) (a b : TermD) (w : World) (B B' : Nat) (h1 : TermV w B v1 a) (h2 : TermV w B' v2 b) (hB : B ≤ w.heap.size) (hB' : B' ≤ w.heap.size) (hbig : a.vars.length + b.vars.length ≤ 1099511627776) :
    Calls Try.prog 48 #[v1, v2] w (RetT (rJoin a b) w) := by
  obtain ⟨A, n, c, rfl, hr⟩ := h1
  obtain ⟨A', n', c', rfl, hr'⟩ := h2
  obtain ⟨an, ac, av⟩ := a
  obtain ⟨bn, bc, bv⟩ := b
  simp only at hr hr'
  have ⟨hbel0, hsz0, ha0, hb0, hz0⟩ := T3_facts ⟨an, ac, av⟩ ⟨bn, bc, bv⟩ A A' n c n' c' w
  have hr0 := (hr.more hB).below hbel0
  have hr0' := (hr'.more hB').below hbel0
  cases an
  · cases bn
    · show Calls _ _ _ _ (RetT (greatT ⟨false, ac, av⟩ ⟨false, bc, bv⟩) w)
      have hc2 := great_any_t _ _ ⟨false, ac, av⟩ ⟨false, bc, bv⟩ (T3 ⟨false, ac, av⟩ ⟨false, bc, bv⟩ A A' n c n' c' w) w.heap.size w.heap.size ⟨A, n, c, rfl, hr0⟩ ⟨A', n', c', rfl, hr0'⟩ (by omega) (by omega) (by simp at hbig ⊢; omega)
      generalize greatT ⟨false, ac, av⟩ ⟨false, bc, bv⟩ = T at hc2 ⊢
      have Hc2 := Lib.hid hc2
      clear hc2
      go_enter Try.func48, Try.ntmps48
      go_wp2_with fail
      refine Hc2.out.mono ?_
      rintro e w3 ⟨A3, n3, c3, rfl, hr3, hb3⟩
      have hz3 := hz0.below hb3 hz0.lt
      have hbel3 := hbel0.trans (hb3.mono hbel0.size)
      have z0 : w3.cell? ⟨w.heap.size + 1 + 1, 0, none⟩ = some (.bool false) := hz3.cell 0
      have z1 : w3.cell? ⟨w.heap.size + 1 + 1, 1, none⟩ = some (.int .u8 0) := hz3.cell 1
      have z2 : w3.cell? ⟨w.heap.size + 1 + 1, 2, none⟩ = some (.slice none 0 0) := hz3.cell 2
      have f0 := hz3.frozen 0
      have f1 := hz3.frozen 1
      have f2 := hz3.frozen 2
      have hle : w.heap.size ≤ w.heap.size + 1 + 1 := by omega
      clear hb3
      go_wp2_with fail
      have hs := hz3.set3 (.bool T.never) (.int .u8 T.c) (.slice A3 n3 c3)
      have hb3 := ((hbel3.setCell (p := ⟨w.heap.size + 1 + 1, 0, none⟩) hle (.bool T.never)).setCell (p := ⟨w.heap.size + 1 + 1, 1, none⟩) hle (.int .u8 T.c)).setCell (p := ⟨w.heap.size + 1 + 1, 2, none⟩) hle (.slice A3 n3 c3)
      have hr9 := (hr3.put3 hz3 (.bool T.never) (.int .u8 T.c) (.slice A3 n3 c3)).more (B' := (((w3.setCell ⟨w.heap.size + 1 + 1, 0, none⟩ (.bool T.never)).setCell ⟨w.heap.size + 1 + 1, 1, none⟩ (.int .u8 T.c)).setCell ⟨w.heap.size + 1 + 1, 2, none⟩ (.slice A3 n3 c3)).heap.size) (by simp)
      generalize (((w3.setCell ⟨w.heap.size + 1 + 1, 0, none⟩ (.bool T.never)).setCell ⟨w.heap.size + 1 + 1, 1, none⟩ (.int .u8 T.c)).setCell ⟨w.heap.size + 1 + 1, 2, none⟩ (.slice A3 n3 c3)) = W3 at hs hb3 hr9 ⊢
      have d0 : W3.cell? ⟨w.heap.size + 1 + 1, 0, none⟩ = some (.bool T.never) := hs.cell 0
      have d1 : W3.cell? ⟨w.heap.size + 1 + 1, 1, none⟩ = some (.int .u8 T.c) := hs.cell 1
      have d2 : W3.cell? ⟨w.heap.size + 1 + 1, 2, none⟩ = some (.slice A3 n3 c3) := hs.cell 2
      exact bodyPost_ret (v := .agg #[.bool T.never, .int .u8 T.c, .slice A3 n3 c3]) (by simp [results, Try.results48, go_sem, d0, d1, d2]) rfl ⟨_, _, _, rfl, hr9, hb3⟩
    · show Calls _ _ _ _ (RetT (greatT ⟨false, 2, []⟩ ⟨false, ac, av⟩) w)
      have hc2 := great_any_t _ _ ⟨false, 2, []⟩ ⟨false, ac, av⟩ (T3 ⟨false, ac, av⟩ ⟨true, bc, bv⟩ A A' n c n' c' w) w.heap.size w.heap.size ⟨none, 0, 0, rfl, RdI.nil⟩ ⟨A, n, c, rfl, hr0⟩ (by omega) (by omega) (by simp at hbig ⊢; omega)
      generalize greatT ⟨false, 2, []⟩ ⟨false, ac, av⟩ = T at hc2 ⊢
      have Hc2 := Lib.hid hc2
      clear hc2
      go_enter Try.func48, Try.ntmps48
      go_wp2_with fail
      refine Hc2.out.mono ?_
      rintro e w3 ⟨A3, n3, c3, rfl, hr3, hb3⟩
      have hz3 := hz0.below hb3 hz0.lt
      have hbel3 := hbel0.trans (hb3.mono hbel0.size)
      have z0 : w3.cell? ⟨w.heap.size + 1 + 1, 0, none⟩ = some (.bool false) := hz3.cell 0
      have z1 : w3.cell? ⟨w.heap.size + 1 + 1, 1, none⟩ = some (.int .u8 0) := hz3.cell 1
      have z2 : w3.cell? ⟨w.heap.size + 1 + 1, 2, none⟩ = some (.slice none 0 0) := hz3.cell 2
      have f0 := hz3.frozen 0
      have f1 := hz3.frozen 1
      have f2 := hz3.frozen 2
      have hle : w.heap.size ≤ w.heap.size + 1 + 1 := by omega
      clear hb3
      go_wp2_with fail
      have hs := hz3.set3 (.bool T.never) (.int .u8 T.c) (.slice A3 n3 c3)
      have hb3 := ((hbel3.setCell (p := ⟨w.heap.size + 1 + 1, 0, none⟩) hle (.bool T.never)).setCell (p := ⟨w.heap.size + 1 + 1, 1, none⟩) hle (.int .u8 T.c)).setCell (p := ⟨w.heap.size + 1 + 1, 2, none⟩) hle (.slice A3 n3 c3)
      have hr9 := (hr3.put3 hz3 (.bool T.never) (.int .u8 T.c) (.slice A3 n3 c3)).more (B' := (((w3.setCell ⟨w.heap.size + 1 + 1, 0, none⟩ (.bool T.never)).setCell ⟨w.heap.size + 1 + 1, 1, none⟩ (.int .u8 T.c)).setCell ⟨w.heap.size + 1 + 1, 2, none⟩ (.slice A3 n3 c3)).heap.size) (by simp)
      generalize (((w3.setCell ⟨w.heap.size + 1 + 1, 0, none⟩ (.bool T.never)).setCell ⟨w.heap.size + 1 + 1, 1, none⟩ (.int .u8 T.c)).setCell ⟨w.heap.size + 1 + 1, 2, none⟩ (.slice A3 n3 c3)) = W3 at hs hb3 hr9 ⊢
      have d0 : W3.cell? ⟨w.heap.size + 1 + 1, 0, none⟩ = some (.bool T.never) := hs.cell 0
      have d1 : W3.cell? ⟨w.heap.size + 1 + 1, 1, none⟩ = some (.int .u8 T.c) := hs.cell 1
      have d2 : W3.cell? ⟨w.heap.size + 1 + 1, 2, none⟩ = some (.slice A3 n3 c3) := hs.cell 2
      exact bodyPost_ret (v := .agg #[.bool T.never, .int .u8 T.c, .slice A3 n3 c3]) (by simp [results, Try.results48, go_sem, d0, d1, d2]) rfl ⟨_, _, _, rfl, hr9, hb3⟩
  · cases bn
    · show Calls _ _ _ _ (RetT (greatT ⟨false, 2, []⟩ ⟨false, bc, bv⟩) w)
      have hc2 := great_any_t _ _ ⟨false, 2, []⟩ ⟨false, bc, bv⟩ (T3 ⟨true, ac, av⟩ ⟨false, bc, bv⟩ A A' n c n' c' w) w.heap.size w.heap.size ⟨none, 0, 0, rfl, RdI.nil⟩ ⟨A', n', c', rfl, hr0'⟩ (by omega) (by omega) (by simp at hbig ⊢; omega)
      generalize greatT ⟨false, 2, []⟩ ⟨false, bc, bv⟩ = T at hc2 ⊢
      have Hc2 := Lib.hid hc2
      clear hc2
      go_enter Try.func48, Try.ntmps48
      go_wp2_with fail
      refine Hc2.out.mono ?_
      rintro e w3 ⟨A3, n3, c3, rfl, hr3, hb3⟩
      have hz3 := hz0.below hb3 hz0.lt
      have hbel3 := hbel0.trans (hb3.mono hbel0.size)
      have z0 : w3.cell? ⟨w.heap.size + 1 + 1, 0, none⟩ = some (.bool false) := hz3.cell 0
      have z1 : w3.cell? ⟨w.heap.size + 1 + 1, 1, none⟩ = some (.int .u8 0) := hz3.cell 1
      have z2 : w3.cell? ⟨w.heap.size + 1 + 1, 2, none⟩ = some (.slice none 0 0) := hz3.cell 2
      have f0 := hz3.frozen 0
      have f1 := hz3.frozen 1
      have f2 := hz3.frozen 2
      have hle : w.heap.size ≤ w.heap.size + 1 + 1 := by omega
      clear hb3
      go_wp2_with fail
      have hs := hz3.set3 (.bool T.never) (.int .u8 T.c) (.slice A3 n3 c3)
      have hb3 := ((hbel3.setCell (p := ⟨w.heap.size + 1 + 1, 0, none⟩) hle (.bool T.never)).setCell (p := ⟨w.heap.size + 1 + 1, 1, none⟩) hle (.int .u8 T.c)).setCell (p := ⟨w.heap.size + 1 + 1, 2, none⟩) hle (.slice A3 n3 c3)
      have hr9 := (hr3.put3 hz3 (.bool T.never) (.int .u8 T.c) (.slice A3 n3 c3)).more (B' := (((w3.setCell ⟨w.heap.size + 1 + 1, 0, none⟩ (.bool T.never)).setCell ⟨w.heap.size + 1 + 1, 1, none⟩ (.int .u8 T.c)).setCell ⟨w.heap.size + 1 + 1, 2, none⟩ (.slice A3 n3 c3)).heap.size) (by simp)
      generalize (((w3.setCell ⟨w.heap.size + 1 + 1, 0, none⟩ (.bool T.never)).setCell ⟨w.heap.size + 1 + 1, 1, none⟩ (.int .u8 T.c)).setCell ⟨w.heap.size + 1 + 1, 2, none⟩ (.slice A3 n3 c3)) = W3 at hs hb3 hr9 ⊢
      have d0 : W3.cell? ⟨w.heap.size + 1 + 1, 0, none⟩ = some (.bool T.never) := hs.cell 0
      have d1 : W3.cell? ⟨w.heap.size + 1 + 1, 1, none⟩ = some (.int .u8 T.c) := hs.cell 1
      have d2 : W3.cell? ⟨w.heap.size + 1 + 1, 2, none⟩ = some (.slice A3 n3 c3) := hs.cell 2
      exact bodyPost_ret (v := .agg #[.bool T.never, .int .u8 T.c, .slice A3 n3 c3]) (by simp [results, Try.results48, go_sem, d0, d1, d2]) rfl ⟨_, _, _, rfl, hr9, hb3⟩
    · show Calls _ _ _ _ (RetT ⟨true, ac, av⟩ w)
      clear hr0 hr0' hbel0 hsz0 ha0 hb0 hz0
      go_enter Try.func48, Try.ntmps48
      go_wp2_with fail
      have hrm := hr.more hB
      have hb3 : Below w.heap.size w (((w.alloc (Obj.cells #[.bool true, .int .u8 ac, .slice A n c] 37)).alloc (Obj.cells #[.bool true, .int .u8 bc, .slice A' n' c'] 37)).alloc (Obj.cells #[.bool true, .int .u8 ac, .slice A n c] 37)) :=
        (((Below.refl _ _).alloc (Nat.le_refl _) _).alloc (by simp) _).alloc (by simp; omega) _
      exact bodyPost_ret (v := .agg #[.bool true, .int .u8 ac, .slice A n c]) (by simp [results, Try.results48, go_sem]) rfl ⟨_, _, _, rfl, (hrm.below hb3).more hb3.size, hb3⟩

theorem refSum_t (v1 v2 : Value) (a b : TermD) (w : World) (B B' : Nat) (h1 : TermV w B v1 a) (h2 : TermV w B' v2 b) (hB : B ≤ w.heap.size) (hB' : B' ≤ w.heap.size) :
    Calls Try.prog 49 #[v1, v2] w (RetT (rSum a b) w) := by
  obtain ⟨A, n, c, rfl, hr⟩ := h1
  obtain ⟨A', n', c', rfl, hr'⟩ := h2
  obtain ⟨an, ac, av⟩ := a
  obtain ⟨bn, bc, bv⟩ := b
  simp only at hr hr'
  have hrm := hr.more hB
  have hrm' := hr'.more hB'
  have hrn : RdI .i64 w w.heap.size none 0 0 [] := RdI.nil
  cases an
  · cases bn
    · go_enter Try.func49, Try.ntmps49
      go_wp2_with fail
      have hb3 : Below w.heap.size w (((w.alloc (Obj.cells #[.bool false, .int .u8 ac, .slice A n c] 37)).alloc (Obj.cells #[.bool false, .int .u8 bc, .slice A' n' c'] 37)).alloc (Obj.cells #[.bool false, .int .u8 3, .slice none 0 0] 37)) :=
        (((Below.refl _ _).alloc (Nat.le_refl _) _).alloc (by simp) _).alloc (by simp; omega) _
      exact bodyPost_ret (v := .agg #[.bool false, .int .u8 3, .slice none 0 0]) (by simp [results, Try.results49, go_sem]) rfl ⟨_, _, _, rfl, (hrn.below hb3).more hb3.size, hb3⟩
    · go_enter Try.func49, Try.ntmps49
      go_wp2_with fail
      have hb3 : Below w.heap.size w (((w.alloc (Obj.cells #[.bool false, .int .u8 ac, .slice A n c] 37)).alloc (Obj.cells #[.bool true, .int .u8 bc, .slice A' n' c'] 37)).alloc (Obj.cells #[.bool false, .int .u8 ac, .slice A n c] 37)) :=
        (((Below.refl _ _).alloc (Nat.le_refl _) _).alloc (by simp) _).alloc (by simp; omega) _
      exact bodyPost_ret (v := .agg #[.bool false, .int .u8 ac, .slice A n c]) (by simp [results, Try.results49, go_sem]) rfl ⟨_, _, _, rfl, (hrm.below hb3).more hb3.size, hb3⟩
  · go_enter Try.func49, Try.ntmps49
    go_wp2_with fail
    have hb3 : Below w.heap.size w (((w.alloc (Obj.cells #[.bool true, .int .u8 ac, .slice A n c] 37)).alloc (Obj.cells #[.bool bn, .int .u8 bc, .slice A' n' c'] 37)).alloc (Obj.cells #[.bool bn, .int .u8 bc, .slice A' n' c'] 37)) :=
      (((Below.refl _ _).alloc (Nat.le_refl _) _).alloc (by simp) _).alloc (by simp; omega) _
    exact bodyPost_ret (v := .agg #[.bool bn, .int .u8 bc, .slice A' n' c']) (by simp [results, Try.results49, go_sem]) rfl ⟨_, _, _, rfl, (hrm'.below hb3).more hb3.size, hb3⟩

end Go.Proofs.Ytimlbpjdgnapoaa

/- What the reference computes of terms, and that it is what package term computes. No program's function. -/
namespace Go.Proofs.Ytimlbpjdgnapoaa
set_option linter.unusedVariables false
set_option linter.unusedSimpArgs false
open Go Go.RowKit

/-! What the reference computes, and that it is what package term computes. No program. -/
theorem mem_insL (out : List Int) (x z : Int) : z ∈ insL out x ↔ z ∈ out ∨ z = x := by
  unfold insL
  by_cases h : out.contains x = true
  · rw [if_pos h]
    have := List.contains_iff_mem.1 h
    constructor
    · exact .inl
    · rintro (h | rfl) <;> assumption
  · rw [if_neg h]; simp
theorem rises_insL {out : List Int} {x : Int} (h : Rises out) (hx : ∀ o ∈ out, o ≤ x) : Rises (insL out x) := by
  unfold insL
  split
  · exact h
  · rename_i hc
    rw [List.contains_iff_mem] at hc
    refine List.pairwise_append.2 ⟨h, by simp, fun a ha b hb => ?_⟩
    rw [List.mem_singleton] at hb
    subst hb
    have := hx a ha
    have hne : a ≠ b := fun e => hc (e ▸ ha)
    omega
theorem bothGo_facts (a b out : List Int) (ha : Rises a) (hb : Rises b) (ho : Rises out) (h1 : ∀ o ∈ out, ∀ x ∈ a, o ≤ x) (h2 : ∀ o ∈ out, ∀ x ∈ b, o ≤ x) :
    Rises (bothGo a b out) ∧ ∀ x, x ∈ bothGo a b out ↔ x ∈ out ∨ x ∈ a ∨ x ∈ b := by
  induction a, b, out using bothGo.induct with
  | case1 out => rw [bothGo]; exact ⟨ho, by simp⟩
  | case2 x a out ih =>
    rw [bothGo]
    obtain ⟨hx, ha'⟩ := List.pairwise_cons.1 ha
    have := ih ha' hb (rises_insL ho fun o hh => h1 o hh x (by simp)) (fun o hh z hz => by
      rcases (mem_insL _ _ _).1 hh with h | rfl
      · exact h1 o h z (List.mem_cons_of_mem _ hz)
      · have := hx z hz; omega) (fun o hh z hz => by simp at hz)
    refine ⟨this.1, fun z => ?_⟩
    rw [this.2, mem_insL, List.mem_cons]
    simp only [List.not_mem_nil, or_false]
    grind
  | case3 y b out ih =>
    rw [bothGo]
    obtain ⟨hx, hb'⟩ := List.pairwise_cons.1 hb
    have := ih ha hb' (rises_insL ho fun o hh => h2 o hh y (by simp)) (fun o hh z hz => by simp at hz) (fun o hh z hz => by
      rcases (mem_insL _ _ _).1 hh with h | rfl
      · exact h2 o h z (List.mem_cons_of_mem _ hz)
      · have := hx z hz; omega)
    refine ⟨this.1, fun z => ?_⟩
    rw [this.2, mem_insL, List.mem_cons]
    simp only [List.not_mem_nil, false_or]
    grind
  | case4 x a y b out hxy ih =>
    rw [bothGo, if_pos hxy]
    obtain ⟨hx, ha'⟩ := List.pairwise_cons.1 ha
    obtain ⟨hy, hb'⟩ := List.pairwise_cons.1 hb
    have := ih ha' hb (rises_insL ho fun o hh => h1 o hh x (by simp)) (fun o hh z hz => by
      rcases (mem_insL _ _ _).1 hh with h | rfl
      · exact h1 o h z (List.mem_cons_of_mem _ hz)
      · have := hx z hz; omega) (fun o hh z hz => by
      rcases (mem_insL _ _ _).1 hh with h | rfl
      · exact h2 o h z hz
      · rcases List.mem_cons.1 hz with rfl | h
        · exact hxy
        · have := hy z h; omega)
    refine ⟨this.1, fun z => ?_⟩
    rw [this.2, mem_insL, List.mem_cons, List.mem_cons]
    grind
  | case5 x a y b out hxy ih =>
    rw [bothGo, if_neg hxy]
    obtain ⟨hx, ha'⟩ := List.pairwise_cons.1 ha
    obtain ⟨hy, hb'⟩ := List.pairwise_cons.1 hb
    have := ih ha hb' (rises_insL ho fun o hh => h2 o hh y (by simp)) (fun o hh z hz => by
      rcases (mem_insL _ _ _).1 hh with h | rfl
      · exact h1 o h z hz
      · rcases List.mem_cons.1 hz with rfl | h
        · omega
        · have := hx z h; omega) (fun o hh z hz => by
      rcases (mem_insL _ _ _).1 hh with h | rfl
      · exact h2 o h z (List.mem_cons_of_mem _ hz)
      · have := hy z hz; omega)
    refine ⟨this.1, fun z => ?_⟩
    rw [this.2, mem_insL, List.mem_cons, List.mem_cons]
    grind
theorem both_eq {a b : List Int} (ha : Rises a) (hb : Rises b) : bothGo a b [] = sset (a ++ b) := by
  have := bothGo_facts a b [] ha hb List.Pairwise.nil (by simp) (by simp)
  refine (sset_eq this.1 fun x => ?_).symm
  rw [this.2]; simp

/-- a term that is what clean makes of it -/
theorem clean_self {t : TermD} (h : mayB t = true) (hn : t.never = false) : cleanT t.c t.vars = t := by
  rcases (may_iff t).1 h with h | ⟨_, _, _, h3, h4, _⟩
  · rw [hn] at h; simp at h
  · obtain ⟨nv, c, l⟩ := t
    simp only at hn h3 h4 ⊢
    subst hn
    unfold cleanT
    congr 1
    split
    · rename_i h
      rcases h with h | h
      · rw [h3 h]
      · rw [h]
    · exact sset_self h4
theorem never_self {t : TermD} (h : mayB t = true) (hn : t.never = true) : t = ⟨true, 0, []⟩ := by
  rcases (may_iff t).1 h with ⟨h1, h2, h3⟩ | ⟨h1, _⟩
  · cases t; simp_all
  · rw [hn] at h1; simp at h1
theorem great_clean {c d : Int} {l m : List Int} (hl : Rises l) (hm : Rises m) : greatT ⟨false, c, l⟩ ⟨false, d, m⟩ = cleanT (max c d) (l ++ m) := by
  unfold greatT cleanT
  simp only
  by_cases h : max c d = 3
  · rw [if_pos h, if_pos (.inl h), h]
  · rw [if_neg h, both_eq hl hm]
    congr 1
    split
    · rename_i h'
      rcases h' with h' | h'
      · exact absurd h' h
      · rw [h', sset_nil]
    · rfl
theorem clean_rises (c : Int) (l : List Int) : Rises (cleanT c l).vars := by
  unfold cleanT
  simp only
  split
  · exact List.Pairwise.nil
  · exact (sset_rises l).1
theorem clean_great (c d : Int) (l m : List Int) (hd : d ≤ 3) (hm : Rises m) : greatT (cleanT c l) ⟨false, d, m⟩ = cleanT (max c d) (l ++ m) ∨ 3 < c := by
  by_cases hc : 3 < c
  · exact .inr hc
  · left
    have := great_clean (c := c) (d := d) (clean_rises c l) hm
    rw [show cleanT c l = ⟨false, c, (cleanT c l).vars⟩ from rfl]
    rw [this]
    unfold cleanT
    simp only
    by_cases h : c = 3
    · have h' : max c d = 3 := by omega
      simp [h']
    · by_cases h' : max c d = 3
      · simp [h']
      · by_cases hl : l = []
        · simp [hl]
        · have hl' := sset_ne hl
          simp only [h, h', hl, hl', false_or, if_false, List.append_eq_nil_iff, false_and]
          congr 1
          refine sset_congr fun x => ?_
          rw [List.mem_append, List.mem_append, (sset_rises l).2]

theorem joinCs_max (c d : Int) : ∀ l : List TermD, joinCs (max c d) l = max d (joinCs c l)
  | [] => by simp [joinCs]; omega
  | t :: l => by
    show joinCs (max (max c d) t.c) l = max d (joinCs (max c t.c) l)
    rw [show max (max c d) t.c = max (max c t.c) d from by omega, joinCs_max]
theorem joinCs_le {c : Int} {l : List TermD} (hc : c ≤ 3) (h : ∀ t ∈ l, t.c ≤ 3) : joinCs c l ≤ 3 := by
  induction l generalizing c with
  | nil => exact hc
  | cons t l ih =>
    have := h t (by simp)
    exact ih (c := max c t.c) (by omega) fun x hx => h x (List.mem_cons_of_mem _ hx)
theorem someT_snoc (ts : List TermD) (t : TermD) : someT (ts ++ [t]) = someT ts ++ (if t.never then [] else [t]) := by
  unfold someT
  rw [List.filter_append]
  cases h : t.never <;> simp [h]
theorem someT_le (ts : List TermD) : (someT ts).length ≤ ts.length := List.length_filter_le _ _
theorem someT_full {ts : List TermD} : ¬ (someT ts).length < ts.length → someT ts = ts := fun h =>
  List.filter_eq_self.2 (by
    have : (ts.filter fun t => !t.never).length = ts.length := by have := someT_le ts; unfold someT at *; omega
    exact List.length_filter_eq_length_iff.1 this)

/-- joined: one more term -/
theorem rJoin_snoc {ts : List TermD} {t : TermD} (hne : ts ≠ []) (hts : ∀ t ∈ ts, mayB t = true) (ht : mayB t = true) : rJoin (joinT ts) t = joinT (ts ++ [t]) := by
  have hc3 : ∀ x ∈ someT ts, x.c ≤ 3 := by
    intro x hx
    obtain ⟨hx1, hx2⟩ := List.mem_filter.1 (show x ∈ ts.filter (fun t => !t.never) from hx)
    rcases (may_iff x).1 (hts x hx1) with h | h
    · rw [h.1] at hx2; simp at hx2
    · exact h.2.2.1
  have hlen : 0 < ts.length := List.length_pos_iff.2 hne
  by_cases hs : someT ts = []
  · have hj : joinT ts = ⟨true, 0, []⟩ := by unfold joinT; rw [if_pos hs]
    rw [hj]
    cases hn : t.never
    · unfold rJoin joinT
      rw [someT_snoc, hs, hn]
      simp only [Bool.and_false, Bool.false_eq_true, if_false, if_true, List.nil_append, List.cons_ne_nil, joinC0]
      rw [someT_snoc, hs, hn]
      simp only [Bool.false_eq_true, if_false, List.nil_append, List.length_singleton, List.length_append]
      rw [if_pos (by omega)]
      have ht' := clean_self ht hn
      rcases (may_iff t).1 ht with h | ⟨_, _, _, _, h4, _⟩
      · rw [hn] at h; simp at h
      · have := great_clean (c := 2) (d := t.c) (l := []) (m := t.vars) List.Pairwise.nil h4
        rw [show (⟨false, t.c, t.vars⟩ : TermD) = t from by cases t; simp_all] at this
        rw [this]
        simp [joinCs, joinVs]
    · unfold rJoin joinT
      rw [someT_snoc, hs, hn]
      simp
  · have hj : joinT ts = cleanT (joinCs (joinC0 ts) (someT ts)) (joinVs (someT ts)) := by unfold joinT; rw [if_neg hs]
    have h0 : joinC0 ts ≤ 3 := by unfold joinC0; split <;> omega
    have hcs := joinCs_le h0 hc3
    rw [hj]
    cases hn : t.never
    · rcases (may_iff t).1 ht with h | ⟨_, _, h3, _, h4, _⟩
      · rw [hn] at h; simp at h
      · have h5 := clean_great (joinCs (joinC0 ts) (someT ts)) t.c (joinVs (someT ts)) t.vars h3 h4
        rcases h5 with h5 | h5
        · rw [show (⟨false, t.c, t.vars⟩ : TermD) = t from by cases t; simp_all] at h5
          unfold rJoin joinT
          rw [show (cleanT (joinCs (joinC0 ts) (someT ts)) (joinVs (someT ts))).never = false from rfl, hn]
          simp only [Bool.and_false, Bool.false_eq_true, if_false]
          rw [h5, someT_snoc, hn]
          simp only [Bool.false_eq_true, if_false]
          rw [if_neg (by simp)]
          have e0 : joinC0 (ts ++ [t]) = joinC0 ts := by
            unfold joinC0
            rw [someT_snoc, hn]
            simp
          rw [e0]
          congr 1
          · simp [joinCs, List.foldl_append]
          · simp [joinVs]
        · omega
    · unfold rJoin joinT
      rw [show (cleanT (joinCs (joinC0 ts) (someT ts)) (joinVs (someT ts))).never = false from rfl, hn]
      simp only [Bool.and_true, Bool.false_eq_true, if_false, if_true]
      rw [someT_snoc, hn]
      simp only [if_true, List.append_nil]
      rw [if_neg hs]
      have e0 : joinC0 (ts ++ [t]) = max (joinC0 ts) 2 := by
        unfold joinC0
        rw [someT_snoc, hn]
        have := someT_le ts
        simp only [if_true, List.append_nil, List.length_append, List.length_singleton]
        rw [if_pos (by omega)]
        split <;> omega
      rw [e0, joinCs_max]
      have h5 := great_clean (c := 2) (d := joinCs (joinC0 ts) (someT ts)) (l := []) (m := (cleanT (joinCs (joinC0 ts) (someT ts)) (joinVs (someT ts))).vars) List.Pairwise.nil (clean_rises _ _)
      rw [show (⟨false, joinCs (joinC0 ts) (someT ts), (cleanT (joinCs (joinC0 ts) (someT ts)) (joinVs (someT ts))).vars⟩ : TermD) = cleanT (joinCs (joinC0 ts) (someT ts)) (joinVs (someT ts)) from rfl] at h5
      rw [h5, List.nil_append]
      unfold cleanT
      simp only
      by_cases h : joinCs (joinC0 ts) (someT ts) = 3
      · have h' : max 2 (joinCs (joinC0 ts) (someT ts)) = 3 := by omega
        simp [h']
      · have h' : max 2 (joinCs (joinC0 ts) (someT ts)) ≠ 3 := by omega
        by_cases hl : joinVs (someT ts) = []
        · simp [hl]
        · have hl' := sset_ne hl
          simp only [h, h', hl, hl', false_or, if_false]
          rw [sset_self (sset_rises _).1]
theorem joinT_one {t : TermD} (ht : mayB t = true) : joinT [t] = t := by
  cases hn : t.never
  · unfold joinT joinC0
    have : someT [t] = [t] := by simp [someT, hn]
    rw [this]
    simp only [List.cons_ne_nil, if_false, List.length_singleton, Nat.lt_irrefl, joinCs, joinVs, List.foldl_cons, List.foldl_nil, List.flatMap_cons, List.flatMap_nil, List.append_nil]
    rcases (may_iff t).1 ht with h | h
    · rw [hn] at h; simp at h
    · rw [show max 1 t.c = t.c from by omega, clean_self ht hn]
  · rw [never_self ht hn]; rfl
theorem sumT_one {t : TermD} (ht : mayB t = true) : sumT [t] = t := by
  cases hn : t.never
  · unfold sumT
    have : someT [t] = [t] := by simp [someT, hn]
    rw [this]
    exact clean_self ht hn
  · rw [never_self ht hn]; rfl
theorem rSum_snoc {ts : List TermD} {t : TermD} (ht : mayB t = true) : rSum (sumT ts) t = sumT (ts ++ [t]) := by
  unfold sumT
  rw [someT_snoc]
  cases hn : t.never
  · simp only [Bool.false_eq_true, if_false]
    have hcs := clean_self ht hn
    match h : someT ts with
    | [] => simp [rSum, hcs]
    | [x] => simp [rSum, cleanT, hn]
    | x :: y :: r => simp [rSum, hn]
  · simp only [if_true, List.append_nil]
    have := never_self ht hn
    match h : someT ts with
    | [] => simp [rSum, this]
    | [x] => simp [rSum, cleanT, hn]
    | x :: y :: r => simp [rSum, hn]
theorem rJoin_two {a b : TermD} (ha : mayB a = true) (hb : mayB b = true) : rJoin a b = joinT [a, b] := by
  have := rJoin_snoc (ts := [a]) (t := b) (by simp) (by simpa using ha) hb
  rwa [joinT_one ha] at this
theorem rSum_two {a b : TermD} (ha : mayB a = true) (hb : mayB b = true) : rSum a b = sumT [a, b] := by
  have := rSum_snoc (ts := [a]) (t := b) hb
  rwa [sumT_one ha] at this
theorem rScale_eq {c v : Int} {t : TermD} (hi : isB c v = true) (ht : mayB t = true) : rScale c v t = scaleT c v t := by
  unfold rScale scaleT
  cases hn : t.never
  · simp only [Bool.false_eq_true, if_false]
    rcases (may_iff t).1 ht with h | ⟨_, h1, _, _, h4, _⟩
    · rw [hn] at h; simp at h
    · have et : (⟨false, t.c, t.vars⟩ : TermD) = t := by cases t; simp_all
      by_cases hc : c = 0
      · rw [if_neg (by simp [hc]), if_pos hc]
        have := great_clean (c := 1) (d := t.c) (l := [v]) (m := t.vars) (by simp [Rises]) h4
        rw [et] at this
        rw [this, show max 1 t.c = t.c from by omega]
        unfold cleanT
        congr 1
        rw [sset_congr (l := [v] ++ t.vars) (m := t.vars ++ [v]) fun x => by simp [or_comm]]
        by_cases h3 : t.c = 3 <;> simp [h3]
      · rw [if_pos hc, if_neg hc]
        have := great_clean (c := c) (d := t.c) (l := []) (m := t.vars) List.Pairwise.nil h4
        rw [et] at this
        rw [this, List.nil_append]
  · simp
/-- under an assignment -/
theorem atGo_eq (asg : List Int) : ∀ (l : List Int) (u : Int), 1 ≤ u → u ≤ 3 → atGo asg u l = rAtGo asg u l
  | [], u, h1, h2 => by
    have : u = 1 ∨ u = 2 ∨ u = 3 := by omega
    rcases this with rfl | rfl | rfl <;> rfl
  | v :: l, u, h1, h2 => by
    unfold atGo rAtGo
    by_cases h : okV asg v = true
    · rw [if_pos h, if_pos h]
      unfold okV oneB at h
      simp only [Bool.and_eq_true, decide_eq_true_eq] at h
      have e : scaleI (atV asg v) u = max u (atV asg v) := by
        unfold scaleI nearI
        rw [if_neg (by omega)]
        split
        · omega
        · rw [if_pos (by omega)]; omega
      rw [e]
      exact atGo_eq asg l _ (by omega) (by omega)
    · rw [if_neg h, if_neg h]
theorem atR_eq {t : TermD} (asg : List Int) (ht : mayB t = true) : atR t asg = rAt t asg := by
  unfold atR rAt
  rw [if_pos ht]
  cases hn : t.never
  · rcases (may_iff t).1 ht with h | h
    · rw [hn] at h; simp at h
    · simp only [Bool.false_eq_true, if_false]
      exact atGo_eq asg _ _ h.2.1 h.2.2.1
  · rw [never_self ht hn]
    simp [atGo]

end Go.Proofs.Ytimlbpjdgnapoaa

/- What terms are under an assignment: joined, summed, scaled. No program's function. -/
namespace Go.Proofs.Ytimlbpjdgnapoaa
set_option linter.unusedVariables false
set_option linter.unusedSimpArgs false
open Go Go.RowKit

/-! What terms are under an assignment. No program. -/
def maxV (asg : List Int) (c : Int) (l : List Int) : Int := l.foldl (fun a v => max a (atV asg v)) c
theorem maxV_le (asg : List Int) : ∀ (l : List Int) (c k : Int), maxV asg c l ≤ k ↔ c ≤ k ∧ ∀ v ∈ l, atV asg v ≤ k
  | [], c, k => by simp [maxV]
  | v :: l, c, k => by
    have := maxV_le asg l (max c (atV asg v)) k
    unfold maxV at this ⊢
    rw [List.foldl_cons, this]
    simp only [List.mem_cons, forall_eq_or_imp]
    constructor
    · rintro ⟨h1, h2⟩; exact ⟨by omega, by omega, h2⟩
    · rintro ⟨h1, h2, h3⟩; exact ⟨by omega, h3⟩
theorem eq_of_le {a b : Int} (h : ∀ k, a ≤ k ↔ b ≤ k) : a = b := by
  have h1 := (h a).1 (Int.le_refl _)
  have h2 := (h b).2 (Int.le_refl _)
  omega
theorem okV_le {asg : List Int} {v : Int} (h : okV asg v = true) : 1 ≤ atV asg v ∧ atV asg v ≤ 3 := by
  unfold okV oneB at h
  simp only [Bool.and_eq_true, decide_eq_true_eq] at h
  exact h.2
theorem atGo_ok {asg : List Int} : ∀ (l : List Int) (u : Int), 1 ≤ u → u ≤ 3 → (∀ v ∈ l, okV asg v = true) → atGo asg u l = (maxV asg u l, 0)
  | [], u, _, _, _ => rfl
  | v :: l, u, h1, h2, h => by
    have hv := h v (by simp)
    have hb := okV_le hv
    unfold atGo
    rw [if_pos hv]
    have e : scaleI (atV asg v) u = max u (atV asg v) := by
      unfold scaleI nearI
      rw [if_neg (by omega)]
      split
      · omega
      · rw [if_pos (by omega)]; omega
    rw [e, atGo_ok l _ (by omega) (by omega) fun x hx => h x (List.mem_cons_of_mem _ hx)]
    rfl
theorem ok_of_atGo {asg : List Int} : ∀ (l : List Int) (u : Int), (atGo asg u l).2 = 0 → ∀ v ∈ l, okV asg v = true
  | [], _, _, v, hv => by simp at hv
  | x :: l, u, h, v, hv => by
    unfold atGo at h
    by_cases hx : okV asg x = true
    · rw [if_pos hx] at h
      rcases List.mem_cons.1 hv with rfl | hv
      · exact hx
      · exact ok_of_atGo l _ h v hv
    · rw [if_neg hx] at h
      simp at h

/-- t may be, and its variables have places -/
def Fine (asg : List Int) (t : TermD) : Prop := mayB t = true ∧ ∀ v ∈ t.vars, okV asg v = true
def valT (asg : List Int) (t : TermD) : Int := if t.never then 0 else maxV asg t.c t.vars
theorem fine_at {asg : List Int} {t : TermD} (h : Fine asg t) : atR t asg = (valT asg t, 0) := by
  unfold atR valT
  rw [if_pos h.1]
  cases hn : t.never
  · rcases (may_iff t).1 h.1 with h' | h'
    · rw [hn] at h'; simp at h'
    · rw [atGo_ok _ _ h'.2.1 h'.2.2.1 h.2]; rfl
  · rw [never_self h.1 hn]; rfl
theorem fine_of_at {asg : List Int} {t : TermD} (h : (atR t asg).2 = 0) : Fine asg t := by
  unfold atR at h
  cases hm : mayB t
  · rw [hm] at h; simp at h
  · rw [hm] at h
    exact ⟨hm, ok_of_atGo _ _ h⟩
theorem maxV_ge {asg : List Int} {c : Int} {l : List Int} : c ≤ maxV asg c l := ((maxV_le asg l c _).1 (Int.le_refl _)).1
theorem fine_val {asg : List Int} {t : TermD} (h : Fine asg t) (hn : t.never = false) : 1 ≤ maxV asg t.c t.vars ∧ maxV asg t.c t.vars ≤ 3 := by
  rcases (may_iff t).1 h.1 with h' | h'
  · rw [hn] at h'; simp at h'
  · exact ⟨Int.le_trans h'.2.1 maxV_ge, (maxV_le _ _ _ _).2 ⟨h'.2.2.1, fun v hv => (okV_le (h.2 v hv)).2⟩⟩
theorem fine_clean {asg : List Int} {c : Int} {l : List Int} (h1 : 1 ≤ c) (h2 : c ≤ 3) (h : ∀ v ∈ l, 0 ≤ v ∧ v < 1048576 ∧ okV asg v = true) : Fine asg (cleanT c l) ∧ valT asg (cleanT c l) = maxV asg c l := by
  have hmem : ∀ v ∈ (cleanT c l).vars, v ∈ l := by
    intro v hv
    unfold cleanT at hv
    simp only at hv
    split at hv
    · simp at hv
    · exact ((sset_rises l).2 v).1 hv
  refine ⟨⟨(may_iff _).2 (.inr ⟨rfl, h1, h2, fun e => ?_, clean_rises c l, fun v hv => ⟨(h v (hmem v hv)).1, (h v (hmem v hv)).2.1⟩⟩), fun v hv => (h v (hmem v hv)).2.2⟩, ?_⟩
  · unfold cleanT at e ⊢
    simp only at e ⊢
    rw [if_pos (.inl e)]
  · show maxV asg c (cleanT c l).vars = _
    refine eq_of_le fun k => ?_
    rw [maxV_le, maxV_le]
    unfold cleanT
    simp only
    split
    · rename_i h'
      rcases h' with h' | h'
      · constructor
        · rintro ⟨a, _⟩
          exact ⟨a, fun v hv => Int.le_trans (okV_le (h v hv).2.2).2 (by omega)⟩
        · rintro ⟨a, _⟩; exact ⟨a, by simp⟩
      · subst h'; simp
    · constructor
      · rintro ⟨a, b⟩; exact ⟨a, fun v hv => b v (((sset_rises l).2 v).2 hv)⟩
      · rintro ⟨a, b⟩; exact ⟨a, fun v hv => b v (((sset_rises l).2 v).1 hv)⟩
theorem fine_vars {asg : List Int} {t : TermD} (h : Fine asg t) : ∀ v ∈ t.vars, 0 ≤ v ∧ v < 1048576 ∧ okV asg v = true := by
  intro v hv
  rcases (may_iff t).1 h.1 with h' | h'
  · rw [h'.2.2] at hv; simp at hv
  · exact ⟨(h'.2.2.2.2.2 v hv).1, (h'.2.2.2.2.2 v hv).2, h.2 v hv⟩
theorem fine_c {asg : List Int} {t : TermD} (h : Fine asg t) (hn : t.never = false) : 1 ≤ t.c ∧ t.c ≤ 3 := by
  rcases (may_iff t).1 h.1 with h' | h'
  · rw [hn] at h'; simp at h'
  · exact ⟨h'.2.1, h'.2.2.1⟩

theorem means_join {asg : List Int} {a b : TermD} (ha : Fine asg a) (hb : Fine asg b) : Fine asg (joinT [a, b]) ∧ valT asg (joinT [a, b]) = joinI [valT asg a, valT asg b] := by
  cases hna : a.never
  · have ⟨c1, c2⟩ := fine_c ha hna
    have ⟨v1, v2⟩ := fine_val ha hna
    have e1 : valT asg a = maxV asg a.c a.vars := by unfold valT; rw [hna]; rfl
    cases hnb : b.never
    · have ⟨d1, d2⟩ := fine_c hb hnb
      have ⟨w1, w2⟩ := fine_val hb hnb
      have e2 : valT asg b = maxV asg b.c b.vars := by unfold valT; rw [hnb]; rfl
      have ej : joinT [a, b] = cleanT (max (max 1 a.c) b.c) (a.vars ++ b.vars) := by
        simp [joinT, someT, joinC0, joinCs, joinVs, hna, hnb]
      rw [ej, e1, e2]
      have := fine_clean (asg := asg) (c := max (max 1 a.c) b.c) (l := a.vars ++ b.vars) (by omega) (by omega) (fun v hv => by
        rcases List.mem_append.1 hv with h | h
        · exact fine_vars ha v h
        · exact fine_vars hb v h)
      refine ⟨this.1, this.2.trans ?_⟩
      have : joinI [maxV asg a.c a.vars, maxV asg b.c b.vars] = max (maxV asg a.c a.vars) (maxV asg b.c b.vars) := by
        unfold joinI joinN joinM
        simp only [List.foldl_cons, List.foldl_nil, Bool.false_or]
        rw [beq_eq_false_iff_ne.2 (by omega : maxV asg a.c a.vars ≠ 0), beq_eq_false_iff_ne.2 (by omega : maxV asg b.c b.vars ≠ 0)]
        simp
        omega
      rw [this]
      refine eq_of_le fun k => ?_
      have x1 := maxV_le asg a.vars a.c k
      have x2 := maxV_le asg b.vars b.c k
      rw [maxV_le]
      constructor
      · rintro ⟨p, q⟩
        have := x1.2 ⟨by omega, fun v hv => q v (List.mem_append_left _ hv)⟩
        have := x2.2 ⟨by omega, fun v hv => q v (List.mem_append_right _ hv)⟩
        omega
      · intro p
        have ⟨p1, p2⟩ := x1.1 (by omega)
        have ⟨q1, q2⟩ := x2.1 (by omega)
        refine ⟨by omega, fun v hv => ?_⟩
        rcases List.mem_append.1 hv with h | h
        · exact p2 v h
        · exact q2 v h
    · have e2 : valT asg b = 0 := by unfold valT; rw [hnb]; rfl
      have ej : joinT [a, b] = cleanT (max 2 a.c) a.vars := by
        simp [joinT, someT, joinC0, joinCs, joinVs, hna, hnb]
      rw [ej, e1, e2]
      have := fine_clean (asg := asg) (c := max 2 a.c) (l := a.vars) (by omega) (by omega) (fine_vars ha)
      refine ⟨this.1, this.2.trans ?_⟩
      have : joinI [maxV asg a.c a.vars, 0] = max 2 (maxV asg a.c a.vars) := by
        unfold joinI joinN joinM
        simp only [List.foldl_cons, List.foldl_nil, Bool.false_or]
        rw [beq_eq_false_iff_ne.2 (by omega : maxV asg a.c a.vars ≠ 0)]
        simp
        split <;> omega
      rw [this]
      refine eq_of_le fun k => ?_
      have x1 := maxV_le asg a.vars a.c k
      rw [maxV_le]
      constructor
      · rintro ⟨p, q⟩
        have := x1.2 ⟨by omega, q⟩
        omega
      · intro p
        have ⟨p1, p2⟩ := x1.1 (by omega)
        exact ⟨by omega, p2⟩
  · have e1 : valT asg a = 0 := by unfold valT; rw [hna]; rfl
    cases hnb : b.never
    · have ⟨d1, d2⟩ := fine_c hb hnb
      have ⟨w1, w2⟩ := fine_val hb hnb
      have e2 : valT asg b = maxV asg b.c b.vars := by unfold valT; rw [hnb]; rfl
      have ej : joinT [a, b] = cleanT (max 2 b.c) b.vars := by
        simp [joinT, someT, joinC0, joinCs, joinVs, hna, hnb]
      rw [ej, e1, e2]
      have := fine_clean (asg := asg) (c := max 2 b.c) (l := b.vars) (by omega) (by omega) (fine_vars hb)
      refine ⟨this.1, this.2.trans ?_⟩
      have : joinI [0, maxV asg b.c b.vars] = max 2 (maxV asg b.c b.vars) := by
        unfold joinI joinN joinM
        simp only [List.foldl_cons, List.foldl_nil, Bool.false_or]
        rw [beq_eq_false_iff_ne.2 (by omega : maxV asg b.c b.vars ≠ 0)]
        simp
        split <;> omega
      rw [this]
      refine eq_of_le fun k => ?_
      have x1 := maxV_le asg b.vars b.c k
      rw [maxV_le]
      constructor
      · rintro ⟨p, q⟩
        have := x1.2 ⟨by omega, q⟩
        omega
      · intro p
        have ⟨p1, p2⟩ := x1.1 (by omega)
        exact ⟨by omega, p2⟩
    · have e2 : valT asg b = 0 := by unfold valT; rw [hnb]; rfl
      have ej : joinT [a, b] = ⟨true, 0, []⟩ := by simp [joinT, someT, hna, hnb]
      rw [ej, e1, e2]
      exact ⟨⟨by decide +kernel, by simp⟩, rfl⟩
theorem means_sum {asg : List Int} {a b : TermD} (ha : Fine asg a) (hb : Fine asg b) : Fine asg (sumT [a, b]) ∧ valT asg (sumT [a, b]) = sumI [valT asg a, valT asg b] := by
  cases hna : a.never
  · have ⟨v1, v2⟩ := fine_val ha hna
    have e1 : valT asg a = maxV asg a.c a.vars := by unfold valT; rw [hna]; rfl
    cases hnb : b.never
    · have ⟨w1, w2⟩ := fine_val hb hnb
      have e2 : valT asg b = maxV asg b.c b.vars := by unfold valT; rw [hnb]; rfl
      have ej : sumT [a, b] = ⟨false, 3, []⟩ := by simp [sumT, someT, hna, hnb]
      rw [ej, e1, e2]
      refine ⟨⟨by decide +kernel, by simp⟩, ?_⟩
      show 3 = _
      unfold sumI
      simp only [List.foldl_cons, List.foldl_nil, if_true]
      rw [if_neg (by omega), if_neg (by omega)]
    · have e2 : valT asg b = 0 := by unfold valT; rw [hnb]; rfl
      have ej : sumT [a, b] = a := by
        have := clean_self ha.1 hna
        simp [sumT, someT, hna, hnb, this]
      rw [ej, e2]
      refine ⟨ha, ?_⟩
      rw [e1]
      unfold sumI
      simp only [List.foldl_cons, List.foldl_nil, if_true]
      rw [if_neg (by omega)]
      omega
  · have e1 : valT asg a = 0 := by unfold valT; rw [hna]; rfl
    cases hnb : b.never
    · have ⟨w1, w2⟩ := fine_val hb hnb
      have e2 : valT asg b = maxV asg b.c b.vars := by unfold valT; rw [hnb]; rfl
      have ej : sumT [a, b] = b := by
        have := clean_self hb.1 hnb
        simp [sumT, someT, hna, hnb, this]
      rw [ej, e1]
      refine ⟨hb, ?_⟩
      rw [e2]
      unfold sumI
      simp only [List.foldl_cons, List.foldl_nil, if_true]
      rw [if_neg (by omega)]
      omega
    · have e2 : valT asg b = 0 := by unfold valT; rw [hnb]; rfl
      have ej : sumT [a, b] = ⟨true, 0, []⟩ := by simp [sumT, someT, hna, hnb]
      rw [ej, e1, e2]
      exact ⟨⟨by decide +kernel, by simp⟩, rfl⟩
/-- what a multiplicity is under an assignment -/
def byV (asg : List Int) (c v : Int) : Int := if c = 0 ∧ 0 ≤ v ∧ v < asg.length then atV asg v else c
theorem means_scale {asg : List Int} {a : TermD} {c v : Int} (ha : Fine asg a) (hi : isB c v = true) (h1 : 1 ≤ byV asg c v) (h2 : byV asg c v ≤ 3) :
    Fine asg (scaleT c v a) ∧ valT asg (scaleT c v a) = scaleI (byV asg c v) (valT asg a) := by
  cases hna : a.never
  · have ⟨c1, c2⟩ := fine_c ha hna
    have ⟨v1, v2⟩ := fine_val ha hna
    have e1 : valT asg a = maxV asg a.c a.vars := by unfold valT; rw [hna]; rfl
    have es : scaleI (byV asg c v) (maxV asg a.c a.vars) = max (maxV asg a.c a.vars) (byV asg c v) := by
      unfold scaleI nearI
      rw [if_neg (by omega), if_pos h2]
      split <;> omega
    rw [e1, es]
    unfold isB oneB at hi
    simp only [Bool.or_eq_true, Bool.and_eq_true, beq_iff_eq, decide_eq_true_eq] at hi
    by_cases hc : c = 0
    · subst hc
      have hv : 0 ≤ v ∧ v < 1048576 := by omega
      by_cases hl : v < asg.length
      · have eb : byV asg 0 v = atV asg v := by unfold byV; rw [if_pos ⟨rfl, hv.1, hl⟩]
        rw [eb] at h1 h2 ⊢
        have hok : okV asg v = true := by unfold okV oneB; simp [hl, h1, h2]
        have ej : scaleT 0 v a = cleanT a.c (a.vars ++ [v]) := by unfold scaleT; rw [hna]; simp
        rw [ej]
        have := fine_clean (asg := asg) (c := a.c) (l := a.vars ++ [v]) c1 c2 (fun x hx => by
          rcases List.mem_append.1 hx with h | h
          · exact fine_vars ha x h
          · rw [List.mem_singleton] at h; subst h; exact ⟨hv.1, hv.2, hok⟩)
        refine ⟨this.1, this.2.trans ?_⟩
        unfold maxV
        rw [List.foldl_append]
        rfl
      · unfold byV at h1
        rw [if_neg (by omega)] at h1
        omega
    · have eb : byV asg c v = c := by unfold byV; rw [if_neg (by omega)]
      rw [eb] at h1 h2 ⊢
      have ej : scaleT c v a = cleanT (max c a.c) a.vars := by unfold scaleT; rw [hna]; simp [hc]
      rw [ej]
      have := fine_clean (asg := asg) (c := max c a.c) (l := a.vars) (by omega) (by omega) (fine_vars ha)
      refine ⟨this.1, this.2.trans ?_⟩
      refine eq_of_le fun k => ?_
      have x1 := maxV_le asg a.vars a.c k
      rw [maxV_le]
      constructor
      · rintro ⟨p, q⟩
        have := x1.2 ⟨by omega, q⟩
        omega
      · intro p
        have ⟨p1, p2⟩ := x1.1 (by omega)
        exact ⟨by omega, p2⟩
  · have e1 : valT asg a = 0 := by unfold valT; rw [hna]; rfl
    have ej : scaleT c v a = a := by unfold scaleT; rw [hna]; rfl
    rw [ej, e1]
    exact ⟨ha, rfl⟩

end Go.Proofs.Ytimlbpjdgnapoaa

/- The contract of usufructref02.Scale. -/
namespace Go.Proofs.Ytimlbpjdgnapoaa
set_option linter.unusedVariables false
set_option linter.unusedSimpArgs false
open Go.RowKit

set_option maxHeartbeats 1000000 in
theorem refScale_t (c v : Int) (tv : Value) (t : TermD) (w : World) (B : Nat) (hv : TermV w B tv t) (hB : B ≤ w.heap.size) (hbig : t.vars.length ≤ 1000000) :
    Calls Try.prog 61 #[.agg #[.int .i64 v, .int .u8 c], tv] w (RetT (rScale c v t) w) := by
  obtain ⟨A, n, cp, rfl, hr⟩ := hv
  obtain ⟨tn, tc, ts⟩ := t
  simp only at hr hbig
  replace hr := hr.more hB
  cases tn
  · have hbel0 : Below w.heap.size w (((w.alloc (Obj.cells #[.int .i64 v, .int .u8 c] 46)).alloc (Obj.cells #[.bool false, .int .u8 tc, .slice A n cp] 37)).alloc (Obj.cells #[.bool false, .int .u8 0, .slice none 0 0] 37)) :=
      (((Below.refl _ _).alloc (Nat.le_refl _) _).alloc (by simp) _).alloc (by simp; omega) _
    have hz0 := blk_new ((w.alloc (Obj.cells #[.int .i64 v, .int .u8 c] 46)).alloc (Obj.cells #[.bool false, .int .u8 tc, .slice A n cp] 37)) #[.bool false, .int .u8 0, .slice none 0 0] 37
    rw [World.size_alloc, World.size_alloc] at hz0
    have hsz : (((w.alloc (Obj.cells #[.int .i64 v, .int .u8 c] 46)).alloc (Obj.cells #[.bool false, .int .u8 tc, .slice A n cp] 37)).alloc (Obj.cells #[.bool false, .int .u8 0, .slice none 0 0] 37)).heap.size = w.heap.size + 1 + 1 + 1 := by simp
    have hr0 := hr.below hbel0
    obtain ⟨W, hW⟩ : ∃ W, ((w.alloc (Obj.cells #[.int .i64 v, .int .u8 c] 46)).alloc (Obj.cells #[.bool false, .int .u8 tc, .slice A n cp] 37)).alloc (Obj.cells #[.bool false, .int .u8 0, .slice none 0 0] 37) = W := ⟨_, rfl⟩
    rw [hW] at hbel0 hz0 hsz hr0
    have HW := Lib.hid hW
    clear hW
    by_cases h0 : c = 0
    · have d : (c != 0) = false := by simp [h0]
      have hs : rScale c v ⟨false, tc, ts⟩ = greatT ⟨false, 1, [v]⟩ ⟨false, tc, ts⟩ := by unfold rScale; simp [h0]
      rw [hs]
      have hb4 : Below W.heap.size W (W.alloc (Obj.cells #[.int .i64 v] 3)) := (Below.refl _ _).alloc (Nat.le_refl _) _
      have hrd : RdI .i64 (W.alloc (Obj.cells #[.int .i64 v] 3)) (W.heap.size + 1) (some ⟨W.heap.size, 0, none⟩) 1 1 [v] := ⟨Rd.new W [.int .i64 v] 3, Nat.le_refl _, by unfold maxLen; omega⟩
      have hq := great_any_t (.agg #[.bool false, .int .u8 1, .slice (some ⟨W.heap.size, 0, none⟩) 1 1]) (.agg #[.bool false, .int .u8 tc, .slice A n cp]) ⟨false, 1, [v]⟩ ⟨false, tc, ts⟩ (W.alloc (Obj.cells #[.int .i64 v] 3)) _ w.heap.size ⟨_, 1, 1, rfl, hrd⟩ ⟨A, n, cp, rfl, hr0.below (hb4.mono (by omega))⟩ (by simp) (by simp; omega) (by simp; omega)
      generalize greatT ⟨false, 1, [v]⟩ ⟨false, tc, ts⟩ = T at hq ⊢
      have Hq := Lib.hid hq
      clear hq hs h0 hrd
      go_enter Try.func61, Try.ntmps61
      go_wp2_with fail
      rw [HW.out, ← hsz]
      refine Hq.out.mono ?_
      rintro e w3 ⟨A3, n3, c3, rfl, hr3, hb3⟩
      replace hb3 := hb4.trans (hb3.mono hb4.size)
      obtain ⟨hz3, hbel3⟩ : Blk w3 (w.heap.size + 1 + 1) 37 #[.bool false, .int .u8 0, .slice none 0 0] ∧ Below w.heap.size w w3 := ⟨hz0.below hb3 hz0.lt, hbel0.trans (hb3.mono hbel0.size)⟩
      have z0 : w3.cell? ⟨w.heap.size + 1 + 1, 0, none⟩ = some (.bool false) := hz3.cell 0
      have z1 : w3.cell? ⟨w.heap.size + 1 + 1, 1, none⟩ = some (.int .u8 0) := hz3.cell 1
      have z2 : w3.cell? ⟨w.heap.size + 1 + 1, 2, none⟩ = some (.slice none 0 0) := hz3.cell 2
      have f0 := hz3.frozen 0
      have f1 := hz3.frozen 1
      have f2 := hz3.frozen 2
      have hle : w.heap.size ≤ w.heap.size + 1 + 1 := by omega
      clear hb3
      go_wp2_with fail
      have hs := hz3.set3 (.bool T.never) (.int .u8 T.c) (.slice A3 n3 c3)
      have hb3 := ((hbel3.setCell (p := ⟨w.heap.size + 1 + 1, 0, none⟩) hle (.bool T.never)).setCell (p := ⟨w.heap.size + 1 + 1, 1, none⟩) hle (.int .u8 T.c)).setCell (p := ⟨w.heap.size + 1 + 1, 2, none⟩) hle (.slice A3 n3 c3)
      have hr9 := (hr3.put3 hz3 (.bool T.never) (.int .u8 T.c) (.slice A3 n3 c3)).more (B' := (((w3.setCell ⟨w.heap.size + 1 + 1, 0, none⟩ (.bool T.never)).setCell ⟨w.heap.size + 1 + 1, 1, none⟩ (.int .u8 T.c)).setCell ⟨w.heap.size + 1 + 1, 2, none⟩ (.slice A3 n3 c3)).heap.size) (by simp)
      generalize (((w3.setCell ⟨w.heap.size + 1 + 1, 0, none⟩ (.bool T.never)).setCell ⟨w.heap.size + 1 + 1, 1, none⟩ (.int .u8 T.c)).setCell ⟨w.heap.size + 1 + 1, 2, none⟩ (.slice A3 n3 c3)) = W3 at hs hb3 hr9 ⊢
      have d0 : W3.cell? ⟨w.heap.size + 1 + 1, 0, none⟩ = some (.bool T.never) := hs.cell 0
      have d1 : W3.cell? ⟨w.heap.size + 1 + 1, 1, none⟩ = some (.int .u8 T.c) := hs.cell 1
      have d2 : W3.cell? ⟨w.heap.size + 1 + 1, 2, none⟩ = some (.slice A3 n3 c3) := hs.cell 2
      exact bodyPost_ret (v := .agg #[.bool T.never, .int .u8 T.c, .slice A3 n3 c3]) (by simp [results, Try.results61, go_sem, d0, d1, d2]) rfl ⟨_, _, _, rfl, hr9, hb3⟩
    · have d : (c != 0) = true := by simp [h0]
      have hs : rScale c v ⟨false, tc, ts⟩ = greatT ⟨false, c, []⟩ ⟨false, tc, ts⟩ := by unfold rScale; simp [h0]
      rw [hs]
      have hq := great_any_t (.agg #[.bool false, .int .u8 c, .slice none 0 0]) (.agg #[.bool false, .int .u8 tc, .slice A n cp]) ⟨false, c, []⟩ ⟨false, tc, ts⟩ W w.heap.size w.heap.size ⟨none, 0, 0, rfl, RdI.nil⟩ ⟨A, n, cp, rfl, hr0⟩ (by omega) (by omega) (by simp; omega)
      generalize greatT ⟨false, c, []⟩ ⟨false, tc, ts⟩ = T at hq ⊢
      have Hq := Lib.hid hq
      clear hq hs h0
      go_enter Try.func61, Try.ntmps61
      go_wp2_with fail
      rw [HW.out]
      refine Hq.out.mono ?_
      rintro e w3 ⟨A3, n3, c3, rfl, hr3, hb3⟩
      obtain ⟨hz3, hbel3⟩ : Blk w3 (w.heap.size + 1 + 1) 37 #[.bool false, .int .u8 0, .slice none 0 0] ∧ Below w.heap.size w w3 := ⟨hz0.below hb3 hz0.lt, hbel0.trans (hb3.mono hbel0.size)⟩
      have z0 : w3.cell? ⟨w.heap.size + 1 + 1, 0, none⟩ = some (.bool false) := hz3.cell 0
      have z1 : w3.cell? ⟨w.heap.size + 1 + 1, 1, none⟩ = some (.int .u8 0) := hz3.cell 1
      have z2 : w3.cell? ⟨w.heap.size + 1 + 1, 2, none⟩ = some (.slice none 0 0) := hz3.cell 2
      have f0 := hz3.frozen 0
      have f1 := hz3.frozen 1
      have f2 := hz3.frozen 2
      have hle : w.heap.size ≤ w.heap.size + 1 + 1 := by omega
      clear hb3
      go_wp2_with fail
      have hs := hz3.set3 (.bool T.never) (.int .u8 T.c) (.slice A3 n3 c3)
      have hb3 := ((hbel3.setCell (p := ⟨w.heap.size + 1 + 1, 0, none⟩) hle (.bool T.never)).setCell (p := ⟨w.heap.size + 1 + 1, 1, none⟩) hle (.int .u8 T.c)).setCell (p := ⟨w.heap.size + 1 + 1, 2, none⟩) hle (.slice A3 n3 c3)
      have hr9 := (hr3.put3 hz3 (.bool T.never) (.int .u8 T.c) (.slice A3 n3 c3)).more (B' := (((w3.setCell ⟨w.heap.size + 1 + 1, 0, none⟩ (.bool T.never)).setCell ⟨w.heap.size + 1 + 1, 1, none⟩ (.int .u8 T.c)).setCell ⟨w.heap.size + 1 + 1, 2, none⟩ (.slice A3 n3 c3)).heap.size) (by simp)
      generalize (((w3.setCell ⟨w.heap.size + 1 + 1, 0, none⟩ (.bool T.never)).setCell ⟨w.heap.size + 1 + 1, 1, none⟩ (.int .u8 T.c)).setCell ⟨w.heap.size + 1 + 1, 2, none⟩ (.slice A3 n3 c3)) = W3 at hs hb3 hr9 ⊢
      have d0 : W3.cell? ⟨w.heap.size + 1 + 1, 0, none⟩ = some (.bool T.never) := hs.cell 0
      have d1 : W3.cell? ⟨w.heap.size + 1 + 1, 1, none⟩ = some (.int .u8 T.c) := hs.cell 1
      have d2 : W3.cell? ⟨w.heap.size + 1 + 1, 2, none⟩ = some (.slice A3 n3 c3) := hs.cell 2
      exact bodyPost_ret (v := .agg #[.bool T.never, .int .u8 T.c, .slice A3 n3 c3]) (by simp [results, Try.results61, go_sem, d0, d1, d2]) rfl ⟨_, _, _, rfl, hr9, hb3⟩
  · go_enter Try.func61, Try.ntmps61
    go_wp2_with fail
    have hb3 : Below w.heap.size w (((w.alloc (Obj.cells #[.int .i64 v, .int .u8 c] 46)).alloc (Obj.cells #[.bool true, .int .u8 tc, .slice A n cp] 37)).alloc (Obj.cells #[.bool true, .int .u8 tc, .slice A n cp] 37)) :=
      (((Below.refl _ _).alloc (Nat.le_refl _) _).alloc (by simp) _).alloc (by simp; omega) _
    exact bodyPost_ret (v := .agg #[.bool true, .int .u8 tc, .slice A n cp]) (by simp [results, Try.results61, go_sem]) rfl ⟨_, _, _, rfl, (hr.below hb3).more hb3.size, hb3⟩

end Go.Proofs.Ytimlbpjdgnapoaa

