/- usufructref02's both, greatest, Join, Sum, Scale: what they return lies in memory that came in, or that the call laid (lines of RefU, RefV, RefW, RefSc). -/
import Derived.Test.YtimlbpjdgnapoaaRefW
import Derived.Test.YtimlbpjdgnapoaaRefSc
import Derived.Test.YtimlbpjdgnapoaaTermP
namespace Go.Proofs.Ytimlbpjdgnapoaa
set_option linter.unusedVariables false
set_option linter.unusedSimpArgs false
open Go.RowKit

/-- the call returns a slice of ints that it laid -/
def RetIF (k : IntKind) (us : List Int) (w : World) (e : Ending) (w' : World) : Prop :=
  ∃ A n c, e = .returned (.slice A n c) ∧ RdI k w' w'.heap.size A n c us ∧ Below w.heap.size w w' ∧ (0 < n → ∃ a, A = some a ∧ w.heap.size ≤ a.block)
/-- the call returns the term t, its variables below B or laid by the call -/
def RetG (B : Nat) (t : TermD) (w : World) (e : Ending) (w' : World) : Prop :=
  ∃ A n c, e = .returned (.agg #[.bool t.never, .int .u8 t.c, .slice A n c]) ∧ RdI .i64 w' w'.heap.size A n c t.vars ∧ Below w.heap.size w w' ∧ (0 < n → ∃ a, A = some a ∧ (a.block < B ∨ w.heap.size ≤ a.block))
theorem own_fresh {w : World} {base : Nat} {e : TypeId} {size : Nat} {A : Option Addr} {n c : Nat} {xs : List Value} (h : w.ownsRow base e size (.slice A n c) n xs) : 0 < n → ∃ a, A = some a ∧ base ≤ a.block := fun hn => by
  rcases h.2 with ⟨e0, e1⟩ | ⟨g, cap, cur, e0, hb, _⟩
  · omega
  · injection e0 with e1
    exact ⟨_, e1, hb⟩
theorem rdI_low {k : IntKind} {w : World} {B : Nat} {A : Option Addr} {n c : Nat} {us : List Int} (h : RdI k w B A n c us) : 0 < n → ∃ a, A = some a ∧ a.block < B := fun hn => by
  obtain ⟨b, off, e, hb, _⟩ := h.1.2 hn
  exact ⟨_, e, hb⟩

set_option maxHeartbeats 2000000 in
theorem both_fresh (A : Option Addr) (n c : Nat) (us : List Int) (A' : Option Addr) (n' c' : Nat) (vs : List Int) (w : World) (B B' : Nat) (h : RdI .i64 w B A n c us) (h' : RdI .i64 w B' A' n' c' vs) (hB : B ≤ w.heap.size) (hB' : B' ≤ w.heap.size) (hbig : n + n' ≤ 1099511627776) :
    Calls Try.prog 85 #[.slice A n c, .slice A' n' c'] w (RetIF .i64 (bothGo us vs []) w) := by
  have hl := h.len
  have hl' := h'.len
  have Hl := Lib.hid hl
  have Hl' := Lib.hid hl'
  clear hl hl'
  obtain ⟨i0, hi0, hz0, hz1, hz2⟩ := info_parts (show (Try.prog.info? 3).map (fun i => (i.zero, i.size, i.bytes)) = some (some (.int .i64 0), 1, 8) from by kernel_rfl)
  have Hr := Lib.hid (h.more hB)
  have Hr' := Lib.hid (h'.more hB')
  clear h h'
  go_enter Try.func85, Try.ntmps85
  go_wp2_with fail
  go_loopg [5, 6, 7] (n + n') (fun g o i k wr => ∃ (x y m : Nat) (A1 : Option Addr) (c1 : Nat) (O : List Int), x ≤ n ∧ y ≤ n' ∧ g = (n - x) + (n' - y) ∧ i = .int .i64 x ∧ k = .int .i64 y ∧ o = .slice A1 m c1 ∧
    wr.ownsRow w.heap.size 3 1 (.slice A1 m c1) m (O.map (Value.int .i64)) ∧ m ≤ x + y ∧ Hid (bothGo (us.drop x) (vs.drop y) O = bothGo us vs []) ∧ Below w.heap.size w wr)
  case atStart => exact ⟨0, 0, 0, none, 0, [], Nat.zero_le _, Nat.zero_le _, by omega, rfl, rfl, rfl, World.ownsRow_nil _ _ _ _, Nat.zero_le _, Lib.hid rfl, Below.refl _ _⟩
  case round =>
    obtain ⟨x, y, m, A1, c1, O, hx, hy, rfl, rfl, rfl, rfl, ho, hm, Hgo, hbel⟩ := hrel
    have hn63 : n ≤ 9223372036854775807 := by omega
    have hn63' : n' ≤ 9223372036854775807 := by omega
    have hR := Hr.out.below hbel
    have hR' := Hr'.out.below hbel
    have hO := RdI.of_own ho
    have ix : (0 : Int) ≤ (x : Int) := by omega
    have iy : (0 : Int) ≤ (y : Int) := by omega
    by_cases hyn : y < n'
    · obtain ⟨b2, o2, rfl, hb2, hc2⟩ := hR'.at_ (by omega)
      have hk2 : y < vs.length := by rw [Hl'.out]; exact hyn
      have x2 := hc2 y hk2
      have iy2 : (y : Int) < (n' : Int) := by omega
      have dy : decide (n' ≤ y) = false := by simpa using hyn
      clear hc2 hR'
      by_cases hxn : x < n
      · obtain ⟨b1, o1, rfl, hb1, hc1⟩ := hR.at_ (by omega)
        have hk1 : x < us.length := by rw [Hl.out]; exact hxn
        have x1 := hc1 x hk1
        have ix2 : (x : Int) < (n : Int) := by omega
        have dx : decide (x < n) = true := by simpa using hxn
        clear hc1 hR
        by_cases hle : us[x] ≤ vs[y]
        · have dl : decide (us[x] ≤ vs[y]) = true := by simpa using hle
          have Hgo' := Lib.hid ((bothGo_a (out := O) hk1 (.inr ⟨hk2, hle⟩)).symm.trans Hgo.out)
          clear Hgo
          have Ho := Lib.hid ho
          have HO := Lib.hid hO
          clear ho hO
          by_cases hin : O.contains us[x] = true
          · have hO' : insL O us[x] = O := by unfold insL; rw [if_pos hin]
            have Hin := Lib.hid hin
            rw [hO'] at Hgo'
            clear hin hO'
            go_wp2_with fail
            go_quiet (fail)
            go_wp2_with fail
            refine (has_any A1 m c1 O us[x] _ wr.heap.size (by exact HO.out.keep fun _ _ => rfl) (by exact Nat.le_refl _)).mono ?_; rintro e w1 ⟨rfl, hb1⟩
            rw [Hin.out]
            go_wp2_with fail
            go_roundg (n - (x + 1) + (n' - y))
            case measure => omega
            case rel => exact ⟨x + 1, y, m, A1, c1, O, by omega, by omega, rfl, by go_num, by go_num, rfl, ownsRow_beyond Ho.out ((below_drewN_t (Below.refl _ _) _).trans hb1), by omega, Hgo', hbel.trans (((below_drewN_t (Below.refl _ _) _).trans hb1).mono hbel.size)⟩
          · have hO' : insL O us[x] = O ++ [us[x]] := by unfold insL; rw [if_neg hin]
            have Hin := Lib.hid (show O.contains us[x] = false by simpa using hin)
            rw [hO'] at Hgo'
            clear hin hO'
            go_wp2_with fail
            go_quiet (fail)
            go_wp2_with fail
            refine (has_any A1 m c1 O us[x] _ wr.heap.size (by exact HO.out.keep fun _ _ => rfl) (by exact Nat.le_refl _)).mono ?_; rintro e w1 ⟨rfl, hb1⟩
            rw [Hin.out]
            have hb2 := (below_drewN_t (Below.refl _ _) _).trans hb1
            have ho1 := ownsRow_beyond Ho.out hb2
            have hbel1 := hbel.trans (hb2.mono hbel.size)
            have cx : w1.cell? ⟨b1, o1 + x, none⟩ = some (.int .i64 us[x]) := (hb2.cell (p := ⟨b1, o1 + x, none⟩) (by show b1 < wr.heap.size; have := hbel.size; omega)).trans x1
            clear hb1 hb2 x1
            go_wp2_with (at_builtin; refine wpList_append_one w w1 rfl (.tmp 46) (.tmp 51) 35 rfl w.heap.size 3 i0 _ 1 8 Try.underlying35 hi0 hz0 hz1 hz2 rfl (by omega) (.slice A1 m c1) m (O.map (Value.int .i64)) rfl [.int .i64 us[x]] rfl (by intro u hu; simp at hu; subst hu; rfl) rfl ho1 (by unfold maxLen; omega) (by omega) hbel1 hbel1.size ?_; intro A2 c2 w2 ho2 hbel2 hg2 hz2')
            go_roundg (n - (x + 1) + (n' - y))
            case measure => omega
            case rel => exact ⟨x + 1, y, m + 1, A2, c2, O ++ [us[x]], by omega, by omega, rfl, by go_num, by go_num, rfl, by rw [List.map_append]; exact ho2, by omega, Hgo', hbel2⟩
        · have dl : decide (us[x] ≤ vs[y]) = false := by simpa using hle
          have Hgo' := Lib.hid ((bothGo_b (out := O) hk2 (.inr ⟨hk1, hle⟩)).symm.trans Hgo.out)
          clear Hgo
          have Ho := Lib.hid ho
          have HO := Lib.hid hO
          clear ho hO
          by_cases hin : O.contains vs[y] = true
          · have hO' : insL O vs[y] = O := by unfold insL; rw [if_pos hin]
            have Hin := Lib.hid hin
            rw [hO'] at Hgo'
            clear hin hO'
            go_wp2_with fail
            go_quiet (fail)
            go_wp2_with fail
            refine (has_any A1 m c1 O vs[y] _ wr.heap.size (by exact HO.out.keep fun _ _ => rfl) (by exact Nat.le_refl _)).mono ?_; rintro e w1 ⟨rfl, hb1⟩
            rw [Hin.out]
            go_wp2_with fail
            go_roundg (n - x + (n' - (y + 1)))
            case measure => omega
            case rel => exact ⟨x, y + 1, m, A1, c1, O, by omega, by omega, rfl, by go_num, by go_num, rfl, ownsRow_beyond Ho.out ((below_drewN_t (Below.refl _ _) _).trans hb1), by omega, Hgo', hbel.trans (((below_drewN_t (Below.refl _ _) _).trans hb1).mono hbel.size)⟩
          · have hO' : insL O vs[y] = O ++ [vs[y]] := by unfold insL; rw [if_neg hin]
            have Hin := Lib.hid (show O.contains vs[y] = false by simpa using hin)
            rw [hO'] at Hgo'
            clear hin hO'
            go_wp2_with fail
            go_quiet (fail)
            go_wp2_with fail
            refine (has_any A1 m c1 O vs[y] _ wr.heap.size (by exact HO.out.keep fun _ _ => rfl) (by exact Nat.le_refl _)).mono ?_; rintro e w1 ⟨rfl, hb1⟩
            rw [Hin.out]
            have hb2 := (below_drewN_t (Below.refl _ _) _).trans hb1
            have ho1 := ownsRow_beyond Ho.out hb2
            have hbel1 := hbel.trans (hb2.mono hbel.size)
            have cx : w1.cell? ⟨b2, o2 + y, none⟩ = some (.int .i64 vs[y]) := (hb2.cell (p := ⟨b2, o2 + y, none⟩) (by show b2 < wr.heap.size; have := hbel.size; omega)).trans x2
            clear hb1 hb2 x2
            go_wp2_with (at_builtin; refine wpList_append_one w w1 rfl (.tmp 62) (.tmp 67) 35 rfl w.heap.size 3 i0 _ 1 8 Try.underlying35 hi0 hz0 hz1 hz2 rfl (by omega) (.slice A1 m c1) m (O.map (Value.int .i64)) rfl [.int .i64 vs[y]] rfl (by intro u hu; simp at hu; subst hu; rfl) rfl ho1 (by unfold maxLen; omega) (by omega) hbel1 hbel1.size ?_; intro A2 c2 w2 ho2 hbel2 hg2 hz2')
            go_roundg (n - x + (n' - (y + 1)))
            case measure => omega
            case rel => exact ⟨x, y + 1, m + 1, A2, c2, O ++ [vs[y]], by omega, by omega, rfl, by go_num, by go_num, rfl, by rw [List.map_append]; exact ho2, by omega, Hgo', hbel2⟩
      · have dx : decide (x < n) = false := by simpa using hxn
        have Hgo' := Lib.hid ((bothGo_b (out := O) hk2 (.inl (by rw [Hl.out]; omega))).symm.trans Hgo.out)
        clear hR
        clear Hgo
        have Ho := Lib.hid ho
        have HO := Lib.hid hO
        clear ho hO
        by_cases hin : O.contains vs[y] = true
        · have hO' : insL O vs[y] = O := by unfold insL; rw [if_pos hin]
          have Hin := Lib.hid hin
          rw [hO'] at Hgo'
          clear hin hO'
          go_wp2_with fail
          go_quiet (fail)
          go_wp2_with fail
          refine (has_any A1 m c1 O vs[y] _ wr.heap.size (by exact HO.out.keep fun _ _ => rfl) (by exact Nat.le_refl _)).mono ?_; rintro e w1 ⟨rfl, hb1⟩
          rw [Hin.out]
          go_wp2_with fail
          go_roundg (n - x + (n' - (y + 1)))
          case measure => omega
          case rel => exact ⟨x, y + 1, m, A1, c1, O, by omega, by omega, rfl, by go_num, by go_num, rfl, ownsRow_beyond Ho.out ((below_drewN_t (Below.refl _ _) _).trans hb1), by omega, Hgo', hbel.trans (((below_drewN_t (Below.refl _ _) _).trans hb1).mono hbel.size)⟩
        · have hO' : insL O vs[y] = O ++ [vs[y]] := by unfold insL; rw [if_neg hin]
          have Hin := Lib.hid (show O.contains vs[y] = false by simpa using hin)
          rw [hO'] at Hgo'
          clear hin hO'
          go_wp2_with fail
          go_quiet (fail)
          go_wp2_with fail
          refine (has_any A1 m c1 O vs[y] _ wr.heap.size (by exact HO.out.keep fun _ _ => rfl) (by exact Nat.le_refl _)).mono ?_; rintro e w1 ⟨rfl, hb1⟩
          rw [Hin.out]
          have hb2 := (below_drewN_t (Below.refl _ _) _).trans hb1
          have ho1 := ownsRow_beyond Ho.out hb2
          have hbel1 := hbel.trans (hb2.mono hbel.size)
          have cx : w1.cell? ⟨b2, o2 + y, none⟩ = some (.int .i64 vs[y]) := (hb2.cell (p := ⟨b2, o2 + y, none⟩) (by show b2 < wr.heap.size; have := hbel.size; omega)).trans x2
          clear hb1 hb2 x2
          go_wp2_with (at_builtin; refine wpList_append_one w w1 rfl (.tmp 62) (.tmp 67) 35 rfl w.heap.size 3 i0 _ 1 8 Try.underlying35 hi0 hz0 hz1 hz2 rfl (by omega) (.slice A1 m c1) m (O.map (Value.int .i64)) rfl [.int .i64 vs[y]] rfl (by intro u hu; simp at hu; subst hu; rfl) rfl ho1 (by unfold maxLen; omega) (by omega) hbel1 hbel1.size ?_; intro A2 c2 w2 ho2 hbel2 hg2 hz2')
          go_roundg (n - x + (n' - (y + 1)))
          case measure => omega
          case rel => exact ⟨x, y + 1, m + 1, A2, c2, O ++ [vs[y]], by omega, by omega, rfl, by go_num, by go_num, rfl, by rw [List.map_append]; exact ho2, by omega, Hgo', hbel2⟩
    · have dy : decide (n' ≤ y) = true := by simp; omega
      clear hR'
      by_cases hxn : x < n
      · obtain ⟨b1, o1, rfl, hb1, hc1⟩ := hR.at_ (by omega)
        have hk1 : x < us.length := by rw [Hl.out]; exact hxn
        have x1 := hc1 x hk1
        have ix2 : (x : Int) < (n : Int) := by omega
        have dx : decide (x < n) = true := by simpa using hxn
        clear hc1 hR
        have Hgo' := Lib.hid ((bothGo_a (out := O) hk1 (.inl (by rw [Hl'.out]; omega))).symm.trans Hgo.out)
        clear Hgo
        have Ho := Lib.hid ho
        have HO := Lib.hid hO
        clear ho hO
        by_cases hin : O.contains us[x] = true
        · have hO' : insL O us[x] = O := by unfold insL; rw [if_pos hin]
          have Hin := Lib.hid hin
          rw [hO'] at Hgo'
          clear hin hO'
          go_wp2_with fail
          go_quiet (fail)
          go_wp2_with fail
          refine (has_any A1 m c1 O us[x] _ wr.heap.size (by exact HO.out.keep fun _ _ => rfl) (by exact Nat.le_refl _)).mono ?_; rintro e w1 ⟨rfl, hb1⟩
          rw [Hin.out]
          go_wp2_with fail
          go_roundg (n - (x + 1) + (n' - y))
          case measure => omega
          case rel => exact ⟨x + 1, y, m, A1, c1, O, by omega, by omega, rfl, by go_num, by go_num, rfl, ownsRow_beyond Ho.out ((below_drewN_t (Below.refl _ _) _).trans hb1), by omega, Hgo', hbel.trans (((below_drewN_t (Below.refl _ _) _).trans hb1).mono hbel.size)⟩
        · have hO' : insL O us[x] = O ++ [us[x]] := by unfold insL; rw [if_neg hin]
          have Hin := Lib.hid (show O.contains us[x] = false by simpa using hin)
          rw [hO'] at Hgo'
          clear hin hO'
          go_wp2_with fail
          go_quiet (fail)
          go_wp2_with fail
          refine (has_any A1 m c1 O us[x] _ wr.heap.size (by exact HO.out.keep fun _ _ => rfl) (by exact Nat.le_refl _)).mono ?_; rintro e w1 ⟨rfl, hb1⟩
          rw [Hin.out]
          have hb2 := (below_drewN_t (Below.refl _ _) _).trans hb1
          have ho1 := ownsRow_beyond Ho.out hb2
          have hbel1 := hbel.trans (hb2.mono hbel.size)
          have cx : w1.cell? ⟨b1, o1 + x, none⟩ = some (.int .i64 us[x]) := (hb2.cell (p := ⟨b1, o1 + x, none⟩) (by show b1 < wr.heap.size; have := hbel.size; omega)).trans x1
          clear hb1 hb2 x1
          go_wp2_with (at_builtin; refine wpList_append_one w w1 rfl (.tmp 46) (.tmp 51) 35 rfl w.heap.size 3 i0 _ 1 8 Try.underlying35 hi0 hz0 hz1 hz2 rfl (by omega) (.slice A1 m c1) m (O.map (Value.int .i64)) rfl [.int .i64 us[x]] rfl (by intro u hu; simp at hu; subst hu; rfl) rfl ho1 (by unfold maxLen; omega) (by omega) hbel1 hbel1.size ?_; intro A2 c2 w2 ho2 hbel2 hg2 hz2')
          go_roundg (n - (x + 1) + (n' - y))
          case measure => omega
          case rel => exact ⟨x + 1, y, m + 1, A2, c2, O ++ [us[x]], by omega, by omega, rfl, by go_num, by go_num, rfl, by rw [List.map_append]; exact ho2, by omega, Hgo', hbel2⟩
      · have hf : O = bothGo us vs [] := by
          have := Hgo.out
          rw [List.drop_of_length_le (by rw [Hl.out]; omega), List.drop_of_length_le (by rw [Hl'.out]; omega), bothGo] at this
          exact this
        rw [hf] at hO
        clear hf hR
        go_wp2_with fail
        go_ret
        exact ⟨A1, m, c1, rfl, hO, hbel, own_fresh ho⟩



set_option maxHeartbeats 1000000 in
theorem great_fresh (v1 v2 : Value) (a b : TermD) (w : World) (B B' : Nat) (h1 : TermV w B v1 a) (h2 : TermV w B' v2 b) (hB : B ≤ w.heap.size) (hB' : B' ≤ w.heap.size) (hbig : a.vars.length + b.vars.length ≤ 1099511627776) :
    Calls Try.prog 75 #[v1, v2] w (RetF (greatT a b) w) := by
  obtain ⟨A, n, c, rfl, hr⟩ := h1
  obtain ⟨A', n', c', rfl, hr'⟩ := h2
  have hl := hr.len
  have hl' := hr'.len
  rw [hl, hl'] at hbig
  have Hl := Lib.hid hl
  have Hl' := Lib.hid hl'
  clear hl hl'
  have ⟨hbel0, hsz0, ha0, hb0, hz0⟩ := T3_facts a b A A' n c n' c' w
  have hr0 := (hr.more hB).below hbel0
  have hr0' := (hr'.more hB').below hbel0
  have hT0 : T3 a b A A' n c n' c' w = ((w.alloc (Obj.cells #[.bool a.never, .int .u8 a.c, .slice A n c] 37)).alloc (Obj.cells #[.bool b.never, .int .u8 b.c, .slice A' n' c'] 37)).alloc (Obj.cells #[.bool false, .int .u8 0, .slice none 0 0] 37) := rfl
  generalize T3 a b A A' n c n' c' w = w2 at hbel0 hsz0 ha0 hb0 hz0 hr0 hr0' hT0
  have HT0 := Lib.hid hT0
  clear hT0
  have a0 : w2.cell? ⟨w.heap.size, 0, none⟩ = some (.bool a.never) := ha0.cell 0
  have a1 : w2.cell? ⟨w.heap.size, 1, none⟩ = some (.int .u8 a.c) := ha0.cell 1
  have a2 : w2.cell? ⟨w.heap.size, 2, none⟩ = some (.slice A n c) := ha0.cell 2
  have b0 : w2.cell? ⟨w.heap.size + 1, 0, none⟩ = some (.bool b.never) := hb0.cell 0
  have b1 : w2.cell? ⟨w.heap.size + 1, 1, none⟩ = some (.int .u8 b.c) := hb0.cell 1
  have b2 : w2.cell? ⟨w.heap.size + 1, 2, none⟩ = some (.slice A' n' c') := hb0.cell 2
  have hc2 := both_fresh A n c a.vars A' n' c' b.vars w2 _ _ hr0 hr0' (by omega) (by omega) hbig
  have Hc2 := Lib.hid hc2
  clear hc2 hr hr' hr0 hr0'
  have z0 : w2.cell? ⟨w.heap.size + 1 + 1, 0, none⟩ = some (.bool false) := hz0.cell 0
  have z1 : w2.cell? ⟨w.heap.size + 1 + 1, 1, none⟩ = some (.int .u8 0) := hz0.cell 1
  have z2 : w2.cell? ⟨w.heap.size + 1 + 1, 2, none⟩ = some (.slice none 0 0) := hz0.cell 2
  have f0 := hz0.frozen 0
  have f1 := hz0.frozen 1
  have f2 := hz0.frozen 2
  have hle : w.heap.size ≤ w.heap.size + 1 + 1 := by omega
  have hm : (a.c < b.c ∧ max a.c b.c = b.c) ∨ (¬ a.c < b.c ∧ max a.c b.c = a.c) := by omega
  obtain ⟨C, hC⟩ : ∃ C, max a.c b.c = C := ⟨_, rfl⟩
  rw [hC] at hm
  have hg : greatT a b = if C = 3 then ⟨false, 3, []⟩ else ⟨false, C, bothGo a.vars b.vars []⟩ := by unfold greatT; rw [hC]
  rw [hg]
  clear hg hC
  rcases hm with ⟨h, e⟩ | ⟨h, e⟩
  · have hd : decide (a.c < b.c) = true := by simpa using h
    subst e
    clear h
    by_cases h3 : b.c = 3
    · rw [if_pos h3]
      have h3' : (b.c == 3) = true := by simp [h3]
      clear h3 Hc2
      have hbx := (T3_facts a b A A' n c n' c' w).1
      go_enter Try.func75, Try.ntmps75
      go_wp2_with fail
      have hb3 : Below w.heap.size w (((w.alloc (Obj.cells #[.bool a.never, .int .u8 a.c, .slice A n c] 37)).alloc (Obj.cells #[.bool b.never, .int .u8 b.c, .slice A' n' c'] 37)).alloc (Obj.cells #[.bool false, .int .u8 3, .slice none 0 0] 37)) :=
        (((Below.refl _ _).alloc (Nat.le_refl _) _).alloc (by simp) _).alloc (by simp; omega) _
      exact bodyPost_ret (v := .agg #[.bool false, .int .u8 3, .slice none 0 0]) (by simp [results, Try.results75, go_sem]) rfl ⟨none, 0, 0, rfl, RdI.nil, hb3, fun h => absurd h (by omega)⟩
    · rw [if_neg h3]
      have h3' : (b.c == 3) = false := by simp [h3]
      clear h3
      go_enter Try.func75, Try.ntmps75
      go_wp2_with fail
      rw [← HT0.out]
      refine Hc2.out.mono ?_
      rintro e w3 ⟨A3, n3, c3, rfl, hr3, hb3, hf3⟩
      have HF3 : Hid (0 < n3 → ∃ a, A3 = some a ∧ w.heap.size ≤ a.block) := Lib.hid fun h => by obtain ⟨a, e, ha⟩ := hf3 h; exact ⟨a, e, Nat.le_trans hbel0.size ha⟩
      clear hf3
      have hz3 := hz0.below hb3 hz0.lt
      have hbel3 := hbel0.trans (hb3.mono hbel0.size)
      have z0 : w3.cell? ⟨w.heap.size + 1 + 1, 0, none⟩ = some (.bool false) := hz3.cell 0
      have z1 : w3.cell? ⟨w.heap.size + 1 + 1, 1, none⟩ = some (.int .u8 0) := hz3.cell 1
      have z2 : w3.cell? ⟨w.heap.size + 1 + 1, 2, none⟩ = some (.slice none 0 0) := hz3.cell 2
      have f0 := hz3.frozen 0
      have f1 := hz3.frozen 1
      have f2 := hz3.frozen 2
      clear hb3
      go_wp2_with fail
      have hs := hz3.set3 (.bool false) (.int .u8 b.c) (.slice A3 n3 c3)
      have hb3 := ((hbel3.setCell (p := ⟨w.heap.size + 1 + 1, 0, none⟩) hle (.bool false)).setCell (p := ⟨w.heap.size + 1 + 1, 1, none⟩) hle (.int .u8 b.c)).setCell (p := ⟨w.heap.size + 1 + 1, 2, none⟩) hle (.slice A3 n3 c3)
      have hr9 := (hr3.put3 hz3 (.bool false) (.int .u8 b.c) (.slice A3 n3 c3)).more (B' := (((w3.setCell ⟨w.heap.size + 1 + 1, 0, none⟩ (.bool false)).setCell ⟨w.heap.size + 1 + 1, 1, none⟩ (.int .u8 b.c)).setCell ⟨w.heap.size + 1 + 1, 2, none⟩ (.slice A3 n3 c3)).heap.size) (by simp)
      generalize (((w3.setCell ⟨w.heap.size + 1 + 1, 0, none⟩ (.bool false)).setCell ⟨w.heap.size + 1 + 1, 1, none⟩ (.int .u8 b.c)).setCell ⟨w.heap.size + 1 + 1, 2, none⟩ (.slice A3 n3 c3)) = W3 at hs hb3 hr9 ⊢
      have d0 : W3.cell? ⟨w.heap.size + 1 + 1, 0, none⟩ = some (.bool false) := hs.cell 0
      have d1 : W3.cell? ⟨w.heap.size + 1 + 1, 1, none⟩ = some (.int .u8 b.c) := hs.cell 1
      have d2 : W3.cell? ⟨w.heap.size + 1 + 1, 2, none⟩ = some (.slice A3 n3 c3) := hs.cell 2
      exact bodyPost_ret (v := .agg #[.bool false, .int .u8 b.c, .slice A3 n3 c3]) (by simp [results, Try.results75, go_sem, d0, d1, d2]) rfl ⟨_, _, _, rfl, hr9, hb3, HF3.out⟩
  · have hd : decide (a.c < b.c) = false := by simpa using h
    subst e
    clear h
    by_cases h3 : a.c = 3
    · rw [if_pos h3]
      have h3' : (a.c == 3) = true := by simp [h3]
      clear h3 Hc2
      have hbx := (T3_facts a b A A' n c n' c' w).1
      go_enter Try.func75, Try.ntmps75
      go_wp2_with fail
      have hb3 : Below w.heap.size w (((w.alloc (Obj.cells #[.bool a.never, .int .u8 a.c, .slice A n c] 37)).alloc (Obj.cells #[.bool b.never, .int .u8 b.c, .slice A' n' c'] 37)).alloc (Obj.cells #[.bool false, .int .u8 3, .slice none 0 0] 37)) :=
        (((Below.refl _ _).alloc (Nat.le_refl _) _).alloc (by simp) _).alloc (by simp; omega) _
      exact bodyPost_ret (v := .agg #[.bool false, .int .u8 3, .slice none 0 0]) (by simp [results, Try.results75, go_sem]) rfl ⟨none, 0, 0, rfl, RdI.nil, hb3, fun h => absurd h (by omega)⟩
    · rw [if_neg h3]
      have h3' : (a.c == 3) = false := by simp [h3]
      clear h3
      go_enter Try.func75, Try.ntmps75
      go_wp2_with fail
      rw [← HT0.out]
      refine Hc2.out.mono ?_
      rintro e w3 ⟨A3, n3, c3, rfl, hr3, hb3, hf3⟩
      have HF3 : Hid (0 < n3 → ∃ a, A3 = some a ∧ w.heap.size ≤ a.block) := Lib.hid fun h => by obtain ⟨a, e, ha⟩ := hf3 h; exact ⟨a, e, Nat.le_trans hbel0.size ha⟩
      clear hf3
      have hz3 := hz0.below hb3 hz0.lt
      have hbel3 := hbel0.trans (hb3.mono hbel0.size)
      have z0 : w3.cell? ⟨w.heap.size + 1 + 1, 0, none⟩ = some (.bool false) := hz3.cell 0
      have z1 : w3.cell? ⟨w.heap.size + 1 + 1, 1, none⟩ = some (.int .u8 0) := hz3.cell 1
      have z2 : w3.cell? ⟨w.heap.size + 1 + 1, 2, none⟩ = some (.slice none 0 0) := hz3.cell 2
      have f0 := hz3.frozen 0
      have f1 := hz3.frozen 1
      have f2 := hz3.frozen 2
      clear hb3
      go_wp2_with fail
      have hs := hz3.set3 (.bool false) (.int .u8 a.c) (.slice A3 n3 c3)
      have hb3 := ((hbel3.setCell (p := ⟨w.heap.size + 1 + 1, 0, none⟩) hle (.bool false)).setCell (p := ⟨w.heap.size + 1 + 1, 1, none⟩) hle (.int .u8 a.c)).setCell (p := ⟨w.heap.size + 1 + 1, 2, none⟩) hle (.slice A3 n3 c3)
      have hr9 := (hr3.put3 hz3 (.bool false) (.int .u8 a.c) (.slice A3 n3 c3)).more (B' := (((w3.setCell ⟨w.heap.size + 1 + 1, 0, none⟩ (.bool false)).setCell ⟨w.heap.size + 1 + 1, 1, none⟩ (.int .u8 a.c)).setCell ⟨w.heap.size + 1 + 1, 2, none⟩ (.slice A3 n3 c3)).heap.size) (by simp)
      generalize (((w3.setCell ⟨w.heap.size + 1 + 1, 0, none⟩ (.bool false)).setCell ⟨w.heap.size + 1 + 1, 1, none⟩ (.int .u8 a.c)).setCell ⟨w.heap.size + 1 + 1, 2, none⟩ (.slice A3 n3 c3)) = W3 at hs hb3 hr9 ⊢
      have d0 : W3.cell? ⟨w.heap.size + 1 + 1, 0, none⟩ = some (.bool false) := hs.cell 0
      have d1 : W3.cell? ⟨w.heap.size + 1 + 1, 1, none⟩ = some (.int .u8 a.c) := hs.cell 1
      have d2 : W3.cell? ⟨w.heap.size + 1 + 1, 2, none⟩ = some (.slice A3 n3 c3) := hs.cell 2
      exact bodyPost_ret (v := .agg #[.bool false, .int .u8 a.c, .slice A3 n3 c3]) (by simp [results, Try.results75, go_sem, d0, d1, d2]) rfl ⟨_, _, _, rfl, hr9, hb3, HF3.out⟩



set_option maxHeartbeats 1000000 in
theorem refJoin_g (v1 v2 : Value) (a b : TermD) (w : World) (B : Nat) (h1 : TermV w B v1 a) (h2 : TermV w B v2 b) (hB : B ≤ w.heap.size) (hbig : a.vars.length + b.vars.length ≤ 1099511627776) :
    Calls Try.prog 48 #[v1, v2] w (RetG B (rJoin a b) w) := by
  obtain ⟨A, n, c, rfl, hr⟩ := h1
  obtain ⟨A', n', c', rfl, hr'⟩ := h2
  obtain ⟨an, ac, av⟩ := a
  obtain ⟨bn, bc, bv⟩ := b
  simp only at hr hr'
  have ⟨hbel0, hsz0, ha0, hb0, hz0⟩ := T3_facts ⟨an, ac, av⟩ ⟨bn, bc, bv⟩ A A' n c n' c' w
  have hr0 := (hr.more hB).below hbel0
  have hr0' := (hr'.more hB).below hbel0
  cases an
  · cases bn
    · show Calls _ _ _ _ (RetG B (greatT ⟨false, ac, av⟩ ⟨false, bc, bv⟩) w)
      have hc2 := great_fresh _ _ ⟨false, ac, av⟩ ⟨false, bc, bv⟩ (T3 ⟨false, ac, av⟩ ⟨false, bc, bv⟩ A A' n c n' c' w) w.heap.size w.heap.size ⟨A, n, c, rfl, hr0⟩ ⟨A', n', c', rfl, hr0'⟩ (by omega) (by omega) (by simp at hbig ⊢; omega)
      generalize greatT ⟨false, ac, av⟩ ⟨false, bc, bv⟩ = T at hc2 ⊢
      have Hc2 := Lib.hid hc2
      clear hc2
      go_enter Try.func48, Try.ntmps48
      go_wp2_with fail
      refine Hc2.out.mono ?_
      rintro e w3 ⟨A3, n3, c3, rfl, hr3, hb3, hf3⟩
      have HF3 : Hid (0 < n3 → ∃ a, A3 = some a ∧ (a.block < B ∨ w.heap.size ≤ a.block)) := Lib.hid fun h => by obtain ⟨a, e, ha⟩ := hf3 h; exact ⟨a, e, .inr (Nat.le_trans hbel0.size ha)⟩
      clear hf3
      have hz3 := hz0.below hb3 hz0.lt
      have hbel3 := hbel0.trans (hb3.mono hbel0.size)
      have z0 : w3.cell? ⟨w.heap.size + 1 + 1, 0, none⟩ = some (.bool false) := hz3.cell 0
      have z1 : w3.cell? ⟨w.heap.size + 1 + 1, 1, none⟩ = some (.int .u8 0) := hz3.cell 1
      have z2 : w3.cell? ⟨w.heap.size + 1 + 1, 2, none⟩ = some (.slice none 0 0) := hz3.cell 2
      have f0 := hz3.frozen 0
      have f1 := hz3.frozen 1
      have f2 := hz3.frozen 2
      have hle : w.heap.size ≤ w.heap.size + 1 + 1 := by omega
      clear hb3
      go_wp2_with fail
      have hs := hz3.set3 (.bool T.never) (.int .u8 T.c) (.slice A3 n3 c3)
      have hb3 := ((hbel3.setCell (p := ⟨w.heap.size + 1 + 1, 0, none⟩) hle (.bool T.never)).setCell (p := ⟨w.heap.size + 1 + 1, 1, none⟩) hle (.int .u8 T.c)).setCell (p := ⟨w.heap.size + 1 + 1, 2, none⟩) hle (.slice A3 n3 c3)
      have hr9 := (hr3.put3 hz3 (.bool T.never) (.int .u8 T.c) (.slice A3 n3 c3)).more (B' := (((w3.setCell ⟨w.heap.size + 1 + 1, 0, none⟩ (.bool T.never)).setCell ⟨w.heap.size + 1 + 1, 1, none⟩ (.int .u8 T.c)).setCell ⟨w.heap.size + 1 + 1, 2, none⟩ (.slice A3 n3 c3)).heap.size) (by simp)
      generalize (((w3.setCell ⟨w.heap.size + 1 + 1, 0, none⟩ (.bool T.never)).setCell ⟨w.heap.size + 1 + 1, 1, none⟩ (.int .u8 T.c)).setCell ⟨w.heap.size + 1 + 1, 2, none⟩ (.slice A3 n3 c3)) = W3 at hs hb3 hr9 ⊢
      have d0 : W3.cell? ⟨w.heap.size + 1 + 1, 0, none⟩ = some (.bool T.never) := hs.cell 0
      have d1 : W3.cell? ⟨w.heap.size + 1 + 1, 1, none⟩ = some (.int .u8 T.c) := hs.cell 1
      have d2 : W3.cell? ⟨w.heap.size + 1 + 1, 2, none⟩ = some (.slice A3 n3 c3) := hs.cell 2
      exact bodyPost_ret (v := .agg #[.bool T.never, .int .u8 T.c, .slice A3 n3 c3]) (by simp [results, Try.results48, go_sem, d0, d1, d2]) rfl ⟨_, _, _, rfl, hr9, hb3, HF3.out⟩
    · show Calls _ _ _ _ (RetG B (greatT ⟨false, 2, []⟩ ⟨false, ac, av⟩) w)
      have hc2 := great_fresh _ _ ⟨false, 2, []⟩ ⟨false, ac, av⟩ (T3 ⟨false, ac, av⟩ ⟨true, bc, bv⟩ A A' n c n' c' w) w.heap.size w.heap.size ⟨none, 0, 0, rfl, RdI.nil⟩ ⟨A, n, c, rfl, hr0⟩ (by omega) (by omega) (by simp at hbig ⊢; omega)
      generalize greatT ⟨false, 2, []⟩ ⟨false, ac, av⟩ = T at hc2 ⊢
      have Hc2 := Lib.hid hc2
      clear hc2
      go_enter Try.func48, Try.ntmps48
      go_wp2_with fail
      refine Hc2.out.mono ?_
      rintro e w3 ⟨A3, n3, c3, rfl, hr3, hb3, hf3⟩
      have HF3 : Hid (0 < n3 → ∃ a, A3 = some a ∧ (a.block < B ∨ w.heap.size ≤ a.block)) := Lib.hid fun h => by obtain ⟨a, e, ha⟩ := hf3 h; exact ⟨a, e, .inr (Nat.le_trans hbel0.size ha)⟩
      clear hf3
      have hz3 := hz0.below hb3 hz0.lt
      have hbel3 := hbel0.trans (hb3.mono hbel0.size)
      have z0 : w3.cell? ⟨w.heap.size + 1 + 1, 0, none⟩ = some (.bool false) := hz3.cell 0
      have z1 : w3.cell? ⟨w.heap.size + 1 + 1, 1, none⟩ = some (.int .u8 0) := hz3.cell 1
      have z2 : w3.cell? ⟨w.heap.size + 1 + 1, 2, none⟩ = some (.slice none 0 0) := hz3.cell 2
      have f0 := hz3.frozen 0
      have f1 := hz3.frozen 1
      have f2 := hz3.frozen 2
      have hle : w.heap.size ≤ w.heap.size + 1 + 1 := by omega
      clear hb3
      go_wp2_with fail
      have hs := hz3.set3 (.bool T.never) (.int .u8 T.c) (.slice A3 n3 c3)
      have hb3 := ((hbel3.setCell (p := ⟨w.heap.size + 1 + 1, 0, none⟩) hle (.bool T.never)).setCell (p := ⟨w.heap.size + 1 + 1, 1, none⟩) hle (.int .u8 T.c)).setCell (p := ⟨w.heap.size + 1 + 1, 2, none⟩) hle (.slice A3 n3 c3)
      have hr9 := (hr3.put3 hz3 (.bool T.never) (.int .u8 T.c) (.slice A3 n3 c3)).more (B' := (((w3.setCell ⟨w.heap.size + 1 + 1, 0, none⟩ (.bool T.never)).setCell ⟨w.heap.size + 1 + 1, 1, none⟩ (.int .u8 T.c)).setCell ⟨w.heap.size + 1 + 1, 2, none⟩ (.slice A3 n3 c3)).heap.size) (by simp)
      generalize (((w3.setCell ⟨w.heap.size + 1 + 1, 0, none⟩ (.bool T.never)).setCell ⟨w.heap.size + 1 + 1, 1, none⟩ (.int .u8 T.c)).setCell ⟨w.heap.size + 1 + 1, 2, none⟩ (.slice A3 n3 c3)) = W3 at hs hb3 hr9 ⊢
      have d0 : W3.cell? ⟨w.heap.size + 1 + 1, 0, none⟩ = some (.bool T.never) := hs.cell 0
      have d1 : W3.cell? ⟨w.heap.size + 1 + 1, 1, none⟩ = some (.int .u8 T.c) := hs.cell 1
      have d2 : W3.cell? ⟨w.heap.size + 1 + 1, 2, none⟩ = some (.slice A3 n3 c3) := hs.cell 2
      exact bodyPost_ret (v := .agg #[.bool T.never, .int .u8 T.c, .slice A3 n3 c3]) (by simp [results, Try.results48, go_sem, d0, d1, d2]) rfl ⟨_, _, _, rfl, hr9, hb3, HF3.out⟩
  · cases bn
    · show Calls _ _ _ _ (RetG B (greatT ⟨false, 2, []⟩ ⟨false, bc, bv⟩) w)
      have hc2 := great_fresh _ _ ⟨false, 2, []⟩ ⟨false, bc, bv⟩ (T3 ⟨true, ac, av⟩ ⟨false, bc, bv⟩ A A' n c n' c' w) w.heap.size w.heap.size ⟨none, 0, 0, rfl, RdI.nil⟩ ⟨A', n', c', rfl, hr0'⟩ (by omega) (by omega) (by simp at hbig ⊢; omega)
      generalize greatT ⟨false, 2, []⟩ ⟨false, bc, bv⟩ = T at hc2 ⊢
      have Hc2 := Lib.hid hc2
      clear hc2
      go_enter Try.func48, Try.ntmps48
      go_wp2_with fail
      refine Hc2.out.mono ?_
      rintro e w3 ⟨A3, n3, c3, rfl, hr3, hb3, hf3⟩
      have HF3 : Hid (0 < n3 → ∃ a, A3 = some a ∧ (a.block < B ∨ w.heap.size ≤ a.block)) := Lib.hid fun h => by obtain ⟨a, e, ha⟩ := hf3 h; exact ⟨a, e, .inr (Nat.le_trans hbel0.size ha)⟩
      clear hf3
      have hz3 := hz0.below hb3 hz0.lt
      have hbel3 := hbel0.trans (hb3.mono hbel0.size)
      have z0 : w3.cell? ⟨w.heap.size + 1 + 1, 0, none⟩ = some (.bool false) := hz3.cell 0
      have z1 : w3.cell? ⟨w.heap.size + 1 + 1, 1, none⟩ = some (.int .u8 0) := hz3.cell 1
      have z2 : w3.cell? ⟨w.heap.size + 1 + 1, 2, none⟩ = some (.slice none 0 0) := hz3.cell 2
      have f0 := hz3.frozen 0
      have f1 := hz3.frozen 1
      have f2 := hz3.frozen 2
      have hle : w.heap.size ≤ w.heap.size + 1 + 1 := by omega
      clear hb3
      go_wp2_with fail
      have hs := hz3.set3 (.bool T.never) (.int .u8 T.c) (.slice A3 n3 c3)
      have hb3 := ((hbel3.setCell (p := ⟨w.heap.size + 1 + 1, 0, none⟩) hle (.bool T.never)).setCell (p := ⟨w.heap.size + 1 + 1, 1, none⟩) hle (.int .u8 T.c)).setCell (p := ⟨w.heap.size + 1 + 1, 2, none⟩) hle (.slice A3 n3 c3)
      have hr9 := (hr3.put3 hz3 (.bool T.never) (.int .u8 T.c) (.slice A3 n3 c3)).more (B' := (((w3.setCell ⟨w.heap.size + 1 + 1, 0, none⟩ (.bool T.never)).setCell ⟨w.heap.size + 1 + 1, 1, none⟩ (.int .u8 T.c)).setCell ⟨w.heap.size + 1 + 1, 2, none⟩ (.slice A3 n3 c3)).heap.size) (by simp)
      generalize (((w3.setCell ⟨w.heap.size + 1 + 1, 0, none⟩ (.bool T.never)).setCell ⟨w.heap.size + 1 + 1, 1, none⟩ (.int .u8 T.c)).setCell ⟨w.heap.size + 1 + 1, 2, none⟩ (.slice A3 n3 c3)) = W3 at hs hb3 hr9 ⊢
      have d0 : W3.cell? ⟨w.heap.size + 1 + 1, 0, none⟩ = some (.bool T.never) := hs.cell 0
      have d1 : W3.cell? ⟨w.heap.size + 1 + 1, 1, none⟩ = some (.int .u8 T.c) := hs.cell 1
      have d2 : W3.cell? ⟨w.heap.size + 1 + 1, 2, none⟩ = some (.slice A3 n3 c3) := hs.cell 2
      exact bodyPost_ret (v := .agg #[.bool T.never, .int .u8 T.c, .slice A3 n3 c3]) (by simp [results, Try.results48, go_sem, d0, d1, d2]) rfl ⟨_, _, _, rfl, hr9, hb3, HF3.out⟩
    · show Calls _ _ _ _ (RetG B ⟨true, ac, av⟩ w)
      clear hr0 hr0' hbel0 hsz0 ha0 hb0 hz0
      go_enter Try.func48, Try.ntmps48
      go_wp2_with fail
      have hrm := hr.more hB
      have hb3 : Below w.heap.size w (((w.alloc (Obj.cells #[.bool true, .int .u8 ac, .slice A n c] 37)).alloc (Obj.cells #[.bool true, .int .u8 bc, .slice A' n' c'] 37)).alloc (Obj.cells #[.bool true, .int .u8 ac, .slice A n c] 37)) :=
        (((Below.refl _ _).alloc (Nat.le_refl _) _).alloc (by simp) _).alloc (by simp; omega) _
      exact bodyPost_ret (v := .agg #[.bool true, .int .u8 ac, .slice A n c]) (by simp [results, Try.results48, go_sem]) rfl ⟨_, _, _, rfl, (hrm.below hb3).more hb3.size, hb3, fun h => by obtain ⟨a, e, ha⟩ := (rdI_low hr) h; exact ⟨a, e, .inl ha⟩⟩

theorem refSum_g (v1 v2 : Value) (a b : TermD) (w : World) (B : Nat) (h1 : TermV w B v1 a) (h2 : TermV w B v2 b) (hB : B ≤ w.heap.size) :
    Calls Try.prog 49 #[v1, v2] w (RetG B (rSum a b) w) := by
  obtain ⟨A, n, c, rfl, hr⟩ := h1
  obtain ⟨A', n', c', rfl, hr'⟩ := h2
  obtain ⟨an, ac, av⟩ := a
  obtain ⟨bn, bc, bv⟩ := b
  simp only at hr hr'
  have hrm := hr.more hB
  have hrm' := hr'.more hB
  have hrn : RdI .i64 w w.heap.size none 0 0 [] := RdI.nil
  have hrz : RdI .i64 w B none 0 0 [] := RdI.nil
  cases an
  · cases bn
    · go_enter Try.func49, Try.ntmps49
      go_wp2_with fail
      have hb3 : Below w.heap.size w (((w.alloc (Obj.cells #[.bool false, .int .u8 ac, .slice A n c] 37)).alloc (Obj.cells #[.bool false, .int .u8 bc, .slice A' n' c'] 37)).alloc (Obj.cells #[.bool false, .int .u8 3, .slice none 0 0] 37)) :=
        (((Below.refl _ _).alloc (Nat.le_refl _) _).alloc (by simp) _).alloc (by simp; omega) _
      exact bodyPost_ret (v := .agg #[.bool false, .int .u8 3, .slice none 0 0]) (by simp [results, Try.results49, go_sem]) rfl ⟨_, _, _, rfl, (hrn.below hb3).more hb3.size, hb3, fun h => by obtain ⟨a, e, ha⟩ := (rdI_low hrz) h; exact ⟨a, e, .inl ha⟩⟩
    · go_enter Try.func49, Try.ntmps49
      go_wp2_with fail
      have hb3 : Below w.heap.size w (((w.alloc (Obj.cells #[.bool false, .int .u8 ac, .slice A n c] 37)).alloc (Obj.cells #[.bool true, .int .u8 bc, .slice A' n' c'] 37)).alloc (Obj.cells #[.bool false, .int .u8 ac, .slice A n c] 37)) :=
        (((Below.refl _ _).alloc (Nat.le_refl _) _).alloc (by simp) _).alloc (by simp; omega) _
      exact bodyPost_ret (v := .agg #[.bool false, .int .u8 ac, .slice A n c]) (by simp [results, Try.results49, go_sem]) rfl ⟨_, _, _, rfl, (hrm.below hb3).more hb3.size, hb3, fun h => by obtain ⟨a, e, ha⟩ := (rdI_low hr) h; exact ⟨a, e, .inl ha⟩⟩
  · go_enter Try.func49, Try.ntmps49
    go_wp2_with fail
    have hb3 : Below w.heap.size w (((w.alloc (Obj.cells #[.bool true, .int .u8 ac, .slice A n c] 37)).alloc (Obj.cells #[.bool bn, .int .u8 bc, .slice A' n' c'] 37)).alloc (Obj.cells #[.bool bn, .int .u8 bc, .slice A' n' c'] 37)) :=
      (((Below.refl _ _).alloc (Nat.le_refl _) _).alloc (by simp) _).alloc (by simp; omega) _
    exact bodyPost_ret (v := .agg #[.bool bn, .int .u8 bc, .slice A' n' c']) (by simp [results, Try.results49, go_sem]) rfl ⟨_, _, _, rfl, (hrm'.below hb3).more hb3.size, hb3, fun h => by obtain ⟨a, e, ha⟩ := (rdI_low hr') h; exact ⟨a, e, .inl ha⟩⟩


set_option maxHeartbeats 1000000 in
theorem refScale_g (c v : Int) (tv : Value) (t : TermD) (w : World) (B : Nat) (hv : TermV w B tv t) (hB : B ≤ w.heap.size) (hbig : t.vars.length ≤ 1048576) :
    Calls Try.prog 61 #[.agg #[.int .i64 v, .int .u8 c], tv] w (RetG B (rScale c v t) w) := by
  obtain ⟨A, n, cp, rfl, hr⟩ := hv
  obtain ⟨tn, tc, ts⟩ := t
  simp only at hr hbig
  have Hlow := Lib.hid (rdI_low hr)
  replace hr := hr.more hB
  cases tn
  · have hbel0 : Below w.heap.size w (((w.alloc (Obj.cells #[.int .i64 v, .int .u8 c] 46)).alloc (Obj.cells #[.bool false, .int .u8 tc, .slice A n cp] 37)).alloc (Obj.cells #[.bool false, .int .u8 0, .slice none 0 0] 37)) :=
      (((Below.refl _ _).alloc (Nat.le_refl _) _).alloc (by simp) _).alloc (by simp; omega) _
    have hz0 := blk_new ((w.alloc (Obj.cells #[.int .i64 v, .int .u8 c] 46)).alloc (Obj.cells #[.bool false, .int .u8 tc, .slice A n cp] 37)) #[.bool false, .int .u8 0, .slice none 0 0] 37
    rw [World.size_alloc, World.size_alloc] at hz0
    have hsz : (((w.alloc (Obj.cells #[.int .i64 v, .int .u8 c] 46)).alloc (Obj.cells #[.bool false, .int .u8 tc, .slice A n cp] 37)).alloc (Obj.cells #[.bool false, .int .u8 0, .slice none 0 0] 37)).heap.size = w.heap.size + 1 + 1 + 1 := by simp
    have hr0 := hr.below hbel0
    obtain ⟨W, hW⟩ : ∃ W, ((w.alloc (Obj.cells #[.int .i64 v, .int .u8 c] 46)).alloc (Obj.cells #[.bool false, .int .u8 tc, .slice A n cp] 37)).alloc (Obj.cells #[.bool false, .int .u8 0, .slice none 0 0] 37) = W := ⟨_, rfl⟩
    rw [hW] at hbel0 hz0 hsz hr0
    have HW := Lib.hid hW
    clear hW
    by_cases h0 : c = 0
    · have d : (c != 0) = false := by simp [h0]
      have hs : rScale c v ⟨false, tc, ts⟩ = greatT ⟨false, 1, [v]⟩ ⟨false, tc, ts⟩ := by unfold rScale; simp [h0]
      rw [hs]
      have hb4 : Below W.heap.size W (W.alloc (Obj.cells #[.int .i64 v] 3)) := (Below.refl _ _).alloc (Nat.le_refl _) _
      have hrd : RdI .i64 (W.alloc (Obj.cells #[.int .i64 v] 3)) (W.heap.size + 1) (some ⟨W.heap.size, 0, none⟩) 1 1 [v] := ⟨Rd.new W [.int .i64 v] 3, Nat.le_refl _, by unfold maxLen; omega⟩
      have hq := great_fresh (.agg #[.bool false, .int .u8 1, .slice (some ⟨W.heap.size, 0, none⟩) 1 1]) (.agg #[.bool false, .int .u8 tc, .slice A n cp]) ⟨false, 1, [v]⟩ ⟨false, tc, ts⟩ (W.alloc (Obj.cells #[.int .i64 v] 3)) _ w.heap.size ⟨_, 1, 1, rfl, hrd⟩ ⟨A, n, cp, rfl, hr0.below (hb4.mono (by omega))⟩ (by simp) (by simp; omega) (by simp; omega)
      generalize greatT ⟨false, 1, [v]⟩ ⟨false, tc, ts⟩ = T at hq ⊢
      have Hq := Lib.hid hq
      clear hq hs h0 hrd
      go_enter Try.func61, Try.ntmps61
      go_wp2_with fail
      rw [HW.out, ← hsz]
      refine Hq.out.mono ?_
      rintro e w3 ⟨A3, n3, c3, rfl, hr3, hb3, hf3⟩
      replace hb3 := hb4.trans (hb3.mono hb4.size)
      obtain ⟨hz3, hbel3⟩ : Blk w3 (w.heap.size + 1 + 1) 37 #[.bool false, .int .u8 0, .slice none 0 0] ∧ Below w.heap.size w w3 := ⟨hz0.below hb3 hz0.lt, hbel0.trans (hb3.mono hbel0.size)⟩
      have z0 : w3.cell? ⟨w.heap.size + 1 + 1, 0, none⟩ = some (.bool false) := hz3.cell 0
      have z1 : w3.cell? ⟨w.heap.size + 1 + 1, 1, none⟩ = some (.int .u8 0) := hz3.cell 1
      have z2 : w3.cell? ⟨w.heap.size + 1 + 1, 2, none⟩ = some (.slice none 0 0) := hz3.cell 2
      have f0 := hz3.frozen 0
      have f1 := hz3.frozen 1
      have f2 := hz3.frozen 2
      have hle : w.heap.size ≤ w.heap.size + 1 + 1 := by omega
      have HF3 : Hid (0 < n3 → ∃ a, A3 = some a ∧ (a.block < B ∨ w.heap.size ≤ a.block)) := Lib.hid fun h => by obtain ⟨a, e, ha⟩ := hf3 h; exact ⟨a, e, .inr (by have := hbel0.size; (try simp only [World.size_alloc] at ha); omega)⟩
      clear hb3
      go_wp2_with fail
      have hs := hz3.set3 (.bool T.never) (.int .u8 T.c) (.slice A3 n3 c3)
      have hb3 := ((hbel3.setCell (p := ⟨w.heap.size + 1 + 1, 0, none⟩) hle (.bool T.never)).setCell (p := ⟨w.heap.size + 1 + 1, 1, none⟩) hle (.int .u8 T.c)).setCell (p := ⟨w.heap.size + 1 + 1, 2, none⟩) hle (.slice A3 n3 c3)
      have hr9 := (hr3.put3 hz3 (.bool T.never) (.int .u8 T.c) (.slice A3 n3 c3)).more (B' := (((w3.setCell ⟨w.heap.size + 1 + 1, 0, none⟩ (.bool T.never)).setCell ⟨w.heap.size + 1 + 1, 1, none⟩ (.int .u8 T.c)).setCell ⟨w.heap.size + 1 + 1, 2, none⟩ (.slice A3 n3 c3)).heap.size) (by simp)
      generalize (((w3.setCell ⟨w.heap.size + 1 + 1, 0, none⟩ (.bool T.never)).setCell ⟨w.heap.size + 1 + 1, 1, none⟩ (.int .u8 T.c)).setCell ⟨w.heap.size + 1 + 1, 2, none⟩ (.slice A3 n3 c3)) = W3 at hs hb3 hr9 ⊢
      have d0 : W3.cell? ⟨w.heap.size + 1 + 1, 0, none⟩ = some (.bool T.never) := hs.cell 0
      have d1 : W3.cell? ⟨w.heap.size + 1 + 1, 1, none⟩ = some (.int .u8 T.c) := hs.cell 1
      have d2 : W3.cell? ⟨w.heap.size + 1 + 1, 2, none⟩ = some (.slice A3 n3 c3) := hs.cell 2
      exact bodyPost_ret (v := .agg #[.bool T.never, .int .u8 T.c, .slice A3 n3 c3]) (by simp [results, Try.results61, go_sem, d0, d1, d2]) rfl ⟨_, _, _, rfl, hr9, hb3, HF3.out⟩
    · have d : (c != 0) = true := by simp [h0]
      have hs : rScale c v ⟨false, tc, ts⟩ = greatT ⟨false, c, []⟩ ⟨false, tc, ts⟩ := by unfold rScale; simp [h0]
      rw [hs]
      have hq := great_fresh (.agg #[.bool false, .int .u8 c, .slice none 0 0]) (.agg #[.bool false, .int .u8 tc, .slice A n cp]) ⟨false, c, []⟩ ⟨false, tc, ts⟩ W w.heap.size w.heap.size ⟨none, 0, 0, rfl, RdI.nil⟩ ⟨A, n, cp, rfl, hr0⟩ (by omega) (by omega) (by simp; omega)
      generalize greatT ⟨false, c, []⟩ ⟨false, tc, ts⟩ = T at hq ⊢
      have Hq := Lib.hid hq
      clear hq hs h0
      go_enter Try.func61, Try.ntmps61
      go_wp2_with fail
      rw [HW.out]
      refine Hq.out.mono ?_
      rintro e w3 ⟨A3, n3, c3, rfl, hr3, hb3, hf3⟩
      obtain ⟨hz3, hbel3⟩ : Blk w3 (w.heap.size + 1 + 1) 37 #[.bool false, .int .u8 0, .slice none 0 0] ∧ Below w.heap.size w w3 := ⟨hz0.below hb3 hz0.lt, hbel0.trans (hb3.mono hbel0.size)⟩
      have z0 : w3.cell? ⟨w.heap.size + 1 + 1, 0, none⟩ = some (.bool false) := hz3.cell 0
      have z1 : w3.cell? ⟨w.heap.size + 1 + 1, 1, none⟩ = some (.int .u8 0) := hz3.cell 1
      have z2 : w3.cell? ⟨w.heap.size + 1 + 1, 2, none⟩ = some (.slice none 0 0) := hz3.cell 2
      have f0 := hz3.frozen 0
      have f1 := hz3.frozen 1
      have f2 := hz3.frozen 2
      have hle : w.heap.size ≤ w.heap.size + 1 + 1 := by omega
      have HF3 : Hid (0 < n3 → ∃ a, A3 = some a ∧ (a.block < B ∨ w.heap.size ≤ a.block)) := Lib.hid fun h => by obtain ⟨a, e, ha⟩ := hf3 h; exact ⟨a, e, .inr (by have := hbel0.size; (try simp only [World.size_alloc] at ha); omega)⟩
      clear hb3
      go_wp2_with fail
      have hs := hz3.set3 (.bool T.never) (.int .u8 T.c) (.slice A3 n3 c3)
      have hb3 := ((hbel3.setCell (p := ⟨w.heap.size + 1 + 1, 0, none⟩) hle (.bool T.never)).setCell (p := ⟨w.heap.size + 1 + 1, 1, none⟩) hle (.int .u8 T.c)).setCell (p := ⟨w.heap.size + 1 + 1, 2, none⟩) hle (.slice A3 n3 c3)
      have hr9 := (hr3.put3 hz3 (.bool T.never) (.int .u8 T.c) (.slice A3 n3 c3)).more (B' := (((w3.setCell ⟨w.heap.size + 1 + 1, 0, none⟩ (.bool T.never)).setCell ⟨w.heap.size + 1 + 1, 1, none⟩ (.int .u8 T.c)).setCell ⟨w.heap.size + 1 + 1, 2, none⟩ (.slice A3 n3 c3)).heap.size) (by simp)
      generalize (((w3.setCell ⟨w.heap.size + 1 + 1, 0, none⟩ (.bool T.never)).setCell ⟨w.heap.size + 1 + 1, 1, none⟩ (.int .u8 T.c)).setCell ⟨w.heap.size + 1 + 1, 2, none⟩ (.slice A3 n3 c3)) = W3 at hs hb3 hr9 ⊢
      have d0 : W3.cell? ⟨w.heap.size + 1 + 1, 0, none⟩ = some (.bool T.never) := hs.cell 0
      have d1 : W3.cell? ⟨w.heap.size + 1 + 1, 1, none⟩ = some (.int .u8 T.c) := hs.cell 1
      have d2 : W3.cell? ⟨w.heap.size + 1 + 1, 2, none⟩ = some (.slice A3 n3 c3) := hs.cell 2
      exact bodyPost_ret (v := .agg #[.bool T.never, .int .u8 T.c, .slice A3 n3 c3]) (by simp [results, Try.results61, go_sem, d0, d1, d2]) rfl ⟨_, _, _, rfl, hr9, hb3, HF3.out⟩
  · go_enter Try.func61, Try.ntmps61
    go_wp2_with fail
    have hb3 : Below w.heap.size w (((w.alloc (Obj.cells #[.int .i64 v, .int .u8 c] 46)).alloc (Obj.cells #[.bool true, .int .u8 tc, .slice A n cp] 37)).alloc (Obj.cells #[.bool true, .int .u8 tc, .slice A n cp] 37)) :=
      (((Below.refl _ _).alloc (Nat.le_refl _) _).alloc (by simp) _).alloc (by simp; omega) _
    exact bodyPost_ret (v := .agg #[.bool true, .int .u8 tc, .slice A n cp]) (by simp [results, Try.results61, go_sem]) rfl ⟨_, _, _, rfl, (hr.below hb3).more hb3.size, hb3, fun h => by obtain ⟨a, e, ha⟩ := Hlow.out h; exact ⟨a, e, .inl ha⟩⟩


end Go.Proofs.Ytimlbpjdgnapoaa
