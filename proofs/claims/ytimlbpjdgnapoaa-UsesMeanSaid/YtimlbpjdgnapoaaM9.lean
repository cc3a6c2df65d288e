/- Texts of this claim, laid one behind the other: RefG, UsesL, UsesM, UsesN. -/
import Derived.Test.YtimlbpjdgnapoaaM5
import Derived.Test.YtimlbpjdgnapoaaM7
import Derived.Test.YtimlbpjdgnapoaaM8
import Derived.Test.YtimlbpjdgnapoaaM4
import Derived.BigQuiet
import Derived.Lib.QuietBelow
import Derived.Deep.QuietTactic
/- usufructref02's both, greatest, Join, Sum, Scale: what they return lies in memory that came in, or that the call laid (lines of RefU, RefV, RefW, RefSc). -/
namespace Go.Proofs.Ytimlbpjdgnapoaa
set_option linter.unusedVariables false
set_option linter.unusedSimpArgs false
open Go.RowKit

/-- the call returns a slice of ints that it laid -/
def RetIF (k : IntKind) (us : List Int) (w : World) (e : Ending) (w' : World) : Prop :=
  ∃ A n c, e = .returned (.slice A n c) ∧ RdI k w' w'.heap.size A n c us ∧ Below w.heap.size w w' ∧ (0 < n → ∃ a, A = some a ∧ w.heap.size ≤ a.block)
/-- the call returns the term t, its variables below B or laid by the call -/
def RetG (B : Nat) (t : TermD) (w : World) (e : Ending) (w' : World) : Prop :=
  ∃ A n c, e = .returned (.agg #[.bool t.never, .int .u8 t.c, .slice A n c]) ∧ RdI .i64 w' w'.heap.size A n c t.vars ∧ Below w.heap.size w w' ∧ (0 < n → ∃ a, A = some a ∧ (a.block < B ∨ w.heap.size ≤ a.block))
theorem own_fresh {w : World} {base : Nat} {e : TypeId} {size : Nat} {A : Option Addr} {n c : Nat} {xs : List Value} (h : w.ownsRow base e size (.slice A n c) n xs) : 0 < n → ∃ a, A = some a ∧ base ≤ a.block := fun hn => by
  rcases h.2 with ⟨e0, e1⟩ | ⟨g, cap, cur, e0, hb, _⟩
  · omega
  · injection e0 with e1
    exact ⟨_, e1, hb⟩
theorem rdI_low {k : IntKind} {w : World} {B : Nat} {A : Option Addr} {n c : Nat} {us : List Int} (h : RdI k w B A n c us) : 0 < n → ∃ a, A = some a ∧ a.block < B := fun hn => by
  obtain ⟨b, off, e, hb, _⟩ := h.1.2 hn
  exact ⟨_, e, hb⟩

set_option maxHeartbeats 2000000 in
theorem both_fresh (A : Option Addr) (n c : Nat) (us : List Int) (A' : Option Addr) (n' c' : Nat) (vs : List Int) (w : World) (B B' : Nat) (h : RdI .i64 w B A n c us) (h' : RdI .i64 w B' A' n' c' vs) (hB : B ≤ w.heap.size) (hB' : B' ≤ w.heap.size) (hbig : n + n' ≤ 1099511627776) :
    Calls Try.prog 85 #[.slice A n c, .slice A' n' c'] w (RetIF .i64 (bothGo us vs []) w) := by
  have hl := h.len
  have hl' := h'.len
  have Hl := Lib.hid hl
  have Hl' := Lib.hid hl'
  clear hl hl'
  obtain ⟨i0, hi0, hz0, hz1, hz2⟩ := info_parts (show (Try.prog.info? 3).map (fun i => (i.zero, i.size, i.bytes)) = some (some (.int .i64 0), 1, 8) from by kernel_rfl)
  have Hr := Lib.hid (h.more hB)
  have Hr' := Lib.hid (h'.more hB')
  clear h h'
  go_enter Try.func85, Try.ntmps85
  go_wp2_with fail
  go_loopg [5, 6, 7] (n + n') (fun g o i k wr => ∃ (x y m : Nat) (A1 : Option Addr) (c1 : Nat) (O : List Int), x ≤ n ∧ y ≤ n' ∧ g = (n - x) + (n' - y) ∧ i = .int .i64 x ∧ k = .int .i64 y ∧ o = .slice A1 m c1 ∧
    wr.ownsRow w.heap.size 3 1 (.slice A1 m c1) m (O.map (Value.int .i64)) ∧ m ≤ x + y ∧ Hid (bothGo (us.drop x) (vs.drop y) O = bothGo us vs []) ∧ Below w.heap.size w wr)
  case atStart => exact ⟨0, 0, 0, none, 0, [], Nat.zero_le _, Nat.zero_le _, by omega, rfl, rfl, rfl, World.ownsRow_nil _ _ _ _, Nat.zero_le _, Lib.hid rfl, Below.refl _ _⟩
  case round =>
    obtain ⟨x, y, m, A1, c1, O, hx, hy, rfl, rfl, rfl, rfl, ho, hm, Hgo, hbel⟩ := hrel
    have hn63 : n ≤ 9223372036854775807 := by omega
    have hn63' : n' ≤ 9223372036854775807 := by omega
    have hR := Hr.out.below hbel
    have hR' := Hr'.out.below hbel
    have hO := RdI.of_own ho
    have ix : (0 : Int) ≤ (x : Int) := by omega
    have iy : (0 : Int) ≤ (y : Int) := by omega
    by_cases hyn : y < n'
    · obtain ⟨b2, o2, rfl, hb2, hc2⟩ := hR'.at_ (by omega)
      have hk2 : y < vs.length := by rw [Hl'.out]; exact hyn
      have x2 := hc2 y hk2
      have iy2 : (y : Int) < (n' : Int) := by omega
      have dy : decide (n' ≤ y) = false := by simpa using hyn
      clear hc2 hR'
      by_cases hxn : x < n
      · obtain ⟨b1, o1, rfl, hb1, hc1⟩ := hR.at_ (by omega)
        have hk1 : x < us.length := by rw [Hl.out]; exact hxn
        have x1 := hc1 x hk1
        have ix2 : (x : Int) < (n : Int) := by omega
        have dx : decide (x < n) = true := by simpa using hxn
        clear hc1 hR
        by_cases hle : us[x] ≤ vs[y]
        · have dl : decide (us[x] ≤ vs[y]) = true := by simpa using hle
          have Hgo' := Lib.hid ((bothGo_a (out := O) hk1 (.inr ⟨hk2, hle⟩)).symm.trans Hgo.out)
          clear Hgo
          have Ho := Lib.hid ho
          have HO := Lib.hid hO
          clear ho hO
          by_cases hin : O.contains us[x] = true
          · have hO' : insL O us[x] = O := by unfold insL; rw [if_pos hin]
            have Hin := Lib.hid hin
            rw [hO'] at Hgo'
            clear hin hO'
            go_wp2_with fail
            go_quiet (fail)
            go_wp2_with fail
            refine (has_any A1 m c1 O us[x] _ wr.heap.size (by exact HO.out.keep fun _ _ => rfl) (by exact Nat.le_refl _)).mono ?_; rintro e w1 ⟨rfl, hb1⟩
            rw [Hin.out]
            go_wp2_with fail
            go_roundg (n - (x + 1) + (n' - y))
            case measure => omega
            case rel => exact ⟨x + 1, y, m, A1, c1, O, by omega, by omega, rfl, by go_num, by go_num, rfl, ownsRow_beyond Ho.out ((below_drewN_t (Below.refl _ _) _).trans hb1), by omega, Hgo', hbel.trans (((below_drewN_t (Below.refl _ _) _).trans hb1).mono hbel.size)⟩
          · have hO' : insL O us[x] = O ++ [us[x]] := by unfold insL; rw [if_neg hin]
            have Hin := Lib.hid (show O.contains us[x] = false by simpa using hin)
            rw [hO'] at Hgo'
            clear hin hO'
            go_wp2_with fail
            go_quiet (fail)
            go_wp2_with fail
            refine (has_any A1 m c1 O us[x] _ wr.heap.size (by exact HO.out.keep fun _ _ => rfl) (by exact Nat.le_refl _)).mono ?_; rintro e w1 ⟨rfl, hb1⟩
            rw [Hin.out]
            have hb2 := (below_drewN_t (Below.refl _ _) _).trans hb1
            have ho1 := ownsRow_beyond Ho.out hb2
            have hbel1 := hbel.trans (hb2.mono hbel.size)
            have cx : w1.cell? ⟨b1, o1 + x, none⟩ = some (.int .i64 us[x]) := (hb2.cell (p := ⟨b1, o1 + x, none⟩) (by show b1 < wr.heap.size; have := hbel.size; omega)).trans x1
            clear hb1 hb2 x1
            go_wp2_with (at_builtin; refine wpList_append_one w w1 rfl (.tmp 46) (.tmp 51) 35 rfl w.heap.size 3 i0 _ 1 8 Try.underlying35 hi0 hz0 hz1 hz2 rfl (by omega) (.slice A1 m c1) m (O.map (Value.int .i64)) rfl [.int .i64 us[x]] rfl (by intro u hu; simp at hu; subst hu; rfl) rfl ho1 (by unfold maxLen; omega) (by omega) hbel1 hbel1.size ?_; intro A2 c2 w2 ho2 hbel2 hg2 hz2')
            go_roundg (n - (x + 1) + (n' - y))
            case measure => omega
            case rel => exact ⟨x + 1, y, m + 1, A2, c2, O ++ [us[x]], by omega, by omega, rfl, by go_num, by go_num, rfl, by rw [List.map_append]; exact ho2, by omega, Hgo', hbel2⟩
        · have dl : decide (us[x] ≤ vs[y]) = false := by simpa using hle
          have Hgo' := Lib.hid ((bothGo_b (out := O) hk2 (.inr ⟨hk1, hle⟩)).symm.trans Hgo.out)
          clear Hgo
          have Ho := Lib.hid ho
          have HO := Lib.hid hO
          clear ho hO
          by_cases hin : O.contains vs[y] = true
          · have hO' : insL O vs[y] = O := by unfold insL; rw [if_pos hin]
            have Hin := Lib.hid hin
            rw [hO'] at Hgo'
            clear hin hO'
            go_wp2_with fail
            go_quiet (fail)
            go_wp2_with fail
            refine (has_any A1 m c1 O vs[y] _ wr.heap.size (by exact HO.out.keep fun _ _ => rfl) (by exact Nat.le_refl _)).mono ?_; rintro e w1 ⟨rfl, hb1⟩
            rw [Hin.out]
            go_wp2_with fail
            go_roundg (n - x + (n' - (y + 1)))
            case measure => omega
            case rel => exact ⟨x, y + 1, m, A1, c1, O, by omega, by omega, rfl, by go_num, by go_num, rfl, ownsRow_beyond Ho.out ((below_drewN_t (Below.refl _ _) _).trans hb1), by omega, Hgo', hbel.trans (((below_drewN_t (Below.refl _ _) _).trans hb1).mono hbel.size)⟩
          · have hO' : insL O vs[y] = O ++ [vs[y]] := by unfold insL; rw [if_neg hin]
            have Hin := Lib.hid (show O.contains vs[y] = false by simpa using hin)
            rw [hO'] at Hgo'
            clear hin hO'
            go_wp2_with fail
            go_quiet (fail)
            go_wp2_with fail
            refine (has_any A1 m c1 O vs[y] _ wr.heap.size (by exact HO.out.keep fun _ _ => rfl) (by exact Nat.le_refl _)).mono ?_; rintro e w1 ⟨rfl, hb1⟩
            rw [Hin.out]
            have hb2 := (below_drewN_t (Below.refl _ _) _).trans hb1
            have ho1 := ownsRow_beyond Ho.out hb2
            have hbel1 := hbel.trans (hb2.mono hbel.size)
            have cx : w1.cell? ⟨b2, o2 + y, none⟩ = some (.int .i64 vs[y]) := (hb2.cell (p := ⟨b2, o2 + y, none⟩) (by show b2 < wr.heap.size; have := hbel.size; omega)).trans x2
            clear hb1 hb2 x2
            go_wp2_with (at_builtin; refine wpList_append_one w w1 rfl (.tmp 62) (.tmp 67) 35 rfl w.heap.size 3 i0 _ 1 8 Try.underlying35 hi0 hz0 hz1 hz2 rfl (by omega) (.slice A1 m c1) m (O.map (Value.int .i64)) rfl [.int .i64 vs[y]] rfl (by intro u hu; simp at hu; subst hu; rfl) rfl ho1 (by unfold maxLen; omega) (by omega) hbel1 hbel1.size ?_; intro A2 c2 w2 ho2 hbel2 hg2 hz2')
            go_roundg (n - x + (n' - (y + 1)))
            case measure => omega
            case rel => exact ⟨x, y + 1, m + 1, A2, c2, O ++ [vs[y]], by omega, by omega, rfl, by go_num, by go_num, rfl, by rw [List.map_append]; exact ho2, by omega, Hgo', hbel2⟩
      · have dx : decide (x < n) = false := by simpa using hxn
        have Hgo' := Lib.hid ((bothGo_b (out := O) hk2 (.inl (by rw [Hl.out]; omega))).symm.trans Hgo.out)
        clear hR
        clear Hgo
        have Ho := Lib.hid ho
        have HO := Lib.hid hO
        clear ho hO
        by_cases hin : O.contains vs[y] = true
        · have hO' : insL O vs[y] = O := by unfold insL; rw [if_pos hin]
          have Hin := Lib.hid hin
          rw [hO'] at Hgo'
          clear hin hO'
          go_wp2_with fail
          go_quiet (fail)
          go_wp2_with fail
          refine (has_any A1 m c1 O vs[y] _ wr.heap.size (by exact HO.out.keep fun _ _ => rfl) (by exact Nat.le_refl _)).mono ?_; rintro e w1 ⟨rfl, hb1⟩
          rw [Hin.out]
          go_wp2_with fail
          go_roundg (n - x + (n' - (y + 1)))
          case measure => omega
          case rel => exact ⟨x, y + 1, m, A1, c1, O, by omega, by omega, rfl, by go_num, by go_num, rfl, ownsRow_beyond Ho.out ((below_drewN_t (Below.refl _ _) _).trans hb1), by omega, Hgo', hbel.trans (((below_drewN_t (Below.refl _ _) _).trans hb1).mono hbel.size)⟩
        · have hO' : insL O vs[y] = O ++ [vs[y]] := by unfold insL; rw [if_neg hin]
          have Hin := Lib.hid (show O.contains vs[y] = false by simpa using hin)
          rw [hO'] at Hgo'
          clear hin hO'
          go_wp2_with fail
          go_quiet (fail)
          go_wp2_with fail
          refine (has_any A1 m c1 O vs[y] _ wr.heap.size (by exact HO.out.keep fun _ _ => rfl) (by exact Nat.le_refl _)).mono ?_; rintro e w1 ⟨rfl, hb1⟩
          rw [Hin.out]
          have hb2 := (below_drewN_t (Below.refl _ _) _).trans hb1
          have ho1 := ownsRow_beyond Ho.out hb2
          have hbel1 := hbel.trans (hb2.mono hbel.size)
          have cx : w1.cell? ⟨b2, o2 + y, none⟩ = some (.int .i64 vs[y]) := (hb2.cell (p := ⟨b2, o2 + y, none⟩) (by show b2 < wr.heap.size; have := hbel.size; omega)).trans x2
          clear hb1 hb2 x2
          go_wp2_with (at_builtin; refine wpList_append_one w w1 rfl (.tmp 62) (.tmp 67) 35 rfl w.heap.size 3 i0 _ 1 8 Try.underlying35 hi0 hz0 hz1 hz2 rfl (by omega) (.slice A1 m c1) m (O.map (Value.int .i64)) rfl [.int .i64 vs[y]] rfl (by intro u hu; simp at hu; subst hu; rfl) rfl ho1 (by unfold maxLen; omega) (by omega) hbel1 hbel1.size ?_; intro A2 c2 w2 ho2 hbel2 hg2 hz2')
          go_roundg (n - x + (n' - (y + 1)))
          case measure => omega
          case rel => exact ⟨x, y + 1, m + 1, A2, c2, O ++ [vs[y]], by omega, by omega, rfl, by go_num, by go_num, rfl, by rw [List.map_append]; exact ho2, by omega, Hgo', hbel2⟩
    · have dy : decide (n' ≤ y) = true := by simp; omega
      clear hR'
      by_cases hxn : x < n
      · obtain ⟨b1, o1, rfl, hb1, hc1⟩ := hR.at_ (by omega)
        have hk1 : x < us.length := by rw [Hl.out]; exact hxn
        have x1 := hc1 x hk1
        have ix2 : (x : Int) < (n : Int) := by omega
        have dx : decide (x < n) = true := by simpa using hxn
        clear hc1 hR
        have Hgo' := Lib.hid ((bothGo_a (out := O) hk1 (.inl (by rw [Hl'.out]; omega))).symm.trans Hgo.out)
        clear Hgo
        have Ho := Lib.hid ho
        have HO := Lib.hid hO
        clear ho hO
        by_cases hin : O.contains us[x] = true
        · have hO' : insL O us[x] = O := by unfold insL; rw [if_pos hin]
          have Hin := Lib.hid hin
          rw [hO'] at Hgo'
          clear hin hO'
          go_wp2_with fail
          go_quiet (fail)
          go_wp2_with fail
          refine (has_any A1 m c1 O us[x] _ wr.heap.size (by exact HO.out.keep fun _ _ => rfl) (by exact Nat.le_refl _)).mono ?_; rintro e w1 ⟨rfl, hb1⟩
          rw [Hin.out]
          go_wp2_with fail
          go_roundg (n - (x + 1) + (n' - y))
          case measure => omega
          case rel => exact ⟨x + 1, y, m, A1, c1, O, by omega, by omega, rfl, by go_num, by go_num, rfl, ownsRow_beyond Ho.out ((below_drewN_t (Below.refl _ _) _).trans hb1), by omega, Hgo', hbel.trans (((below_drewN_t (Below.refl _ _) _).trans hb1).mono hbel.size)⟩
        · have hO' : insL O us[x] = O ++ [us[x]] := by unfold insL; rw [if_neg hin]
          have Hin := Lib.hid (show O.contains us[x] = false by simpa using hin)
          rw [hO'] at Hgo'
          clear hin hO'
          go_wp2_with fail
          go_quiet (fail)
          go_wp2_with fail
          refine (has_any A1 m c1 O us[x] _ wr.heap.size (by exact HO.out.keep fun _ _ => rfl) (by exact Nat.le_refl _)).mono ?_; rintro e w1 ⟨rfl, hb1⟩
          rw [Hin.out]
          have hb2 := (below_drewN_t (Below.refl _ _) _).trans hb1
          have ho1 := ownsRow_beyond Ho.out hb2
          have hbel1 := hbel.trans (hb2.mono hbel.size)
          have cx : w1.cell? ⟨b1, o1 + x, none⟩ = some (.int .i64 us[x]) := (hb2.cell (p := ⟨b1, o1 + x, none⟩) (by show b1 < wr.heap.size; have := hbel.size; omega)).trans x1
          clear hb1 hb2 x1
          go_wp2_with (at_builtin; refine wpList_append_one w w1 rfl (.tmp 46) (.tmp 51) 35 rfl w.heap.size 3 i0 _ 1 8 Try.underlying35 hi0 hz0 hz1 hz2 rfl (by omega) (.slice A1 m c1) m (O.map (Value.int .i64)) rfl [.int .i64 us[x]] rfl (by intro u hu; simp at hu; subst hu; rfl) rfl ho1 (by unfold maxLen; omega) (by omega) hbel1 hbel1.size ?_; intro A2 c2 w2 ho2 hbel2 hg2 hz2')
          go_roundg (n - (x + 1) + (n' - y))
          case measure => omega
          case rel => exact ⟨x + 1, y, m + 1, A2, c2, O ++ [us[x]], by omega, by omega, rfl, by go_num, by go_num, rfl, by rw [List.map_append]; exact ho2, by omega, Hgo', hbel2⟩
      · have hf : O = bothGo us vs [] := by
          have := Hgo.out
          rw [List.drop_of_length_le (by rw [Hl.out]; omega), List.drop_of_length_le (by rw [Hl'.out]; omega), bothGo] at this
          exact this
        rw [hf] at hO
        clear hf hR
        go_wp2_with fail
        go_ret
        exact ⟨A1, m, c1, rfl, hO, hbel, own_fresh ho⟩



set_option maxHeartbeats 1000000 in
theorem great_fresh (v1 v2 : Value) (a b : TermD) (w : World) (B B' : Nat) (h1 : TermV w B v1 a) (h2 : TermV w B' v2 b) (hB : B ≤ w.heap.size) (hB' : B' ≤ w.heap.size) (hbig : a.vars.length + b.vars.length ≤ 1099511627776) :
    Calls Try.prog 75 #[v1, v2] w (RetF (greatT a b) w) := by
  obtain ⟨A, n, c, rfl, hr⟩ := h1
  obtain ⟨A', n', c', rfl, hr'⟩ := h2
  have hl := hr.len
  have hl' := hr'.len
  rw [hl, hl'] at hbig
  have Hl := Lib.hid hl
  have Hl' := Lib.hid hl'
  clear hl hl'
  have ⟨hbel0, hsz0, ha0, hb0, hz0⟩ := T3_facts a b A A' n c n' c' w
  have hr0 := (hr.more hB).below hbel0
  have hr0' := (hr'.more hB').below hbel0
  have hT0 : T3 a b A A' n c n' c' w = ((w.alloc (Obj.cells #[.bool a.never, .int .u8 a.c, .slice A n c] 37)).alloc (Obj.cells #[.bool b.never, .int .u8 b.c, .slice A' n' c'] 37)).alloc (Obj.cells #[.bool false, .int .u8 0, .slice none 0 0] 37) := rfl
  generalize T3 a b A A' n c n' c' w = w2 at hbel0 hsz0 ha0 hb0 hz0 hr0 hr0' hT0
  have HT0 := Lib.hid hT0
  clear hT0
  have a0 : w2.cell? ⟨w.heap.size, 0, none⟩ = some (.bool a.never) := ha0.cell 0
  have a1 : w2.cell? ⟨w.heap.size, 1, none⟩ = some (.int .u8 a.c) := ha0.cell 1
  have a2 : w2.cell? ⟨w.heap.size, 2, none⟩ = some (.slice A n c) := ha0.cell 2
  have b0 : w2.cell? ⟨w.heap.size + 1, 0, none⟩ = some (.bool b.never) := hb0.cell 0
  have b1 : w2.cell? ⟨w.heap.size + 1, 1, none⟩ = some (.int .u8 b.c) := hb0.cell 1
  have b2 : w2.cell? ⟨w.heap.size + 1, 2, none⟩ = some (.slice A' n' c') := hb0.cell 2
  have hc2 := both_fresh A n c a.vars A' n' c' b.vars w2 _ _ hr0 hr0' (by omega) (by omega) hbig
  have Hc2 := Lib.hid hc2
  clear hc2 hr hr' hr0 hr0'
  have z0 : w2.cell? ⟨w.heap.size + 1 + 1, 0, none⟩ = some (.bool false) := hz0.cell 0
  have z1 : w2.cell? ⟨w.heap.size + 1 + 1, 1, none⟩ = some (.int .u8 0) := hz0.cell 1
  have z2 : w2.cell? ⟨w.heap.size + 1 + 1, 2, none⟩ = some (.slice none 0 0) := hz0.cell 2
  have f0 := hz0.frozen 0
  have f1 := hz0.frozen 1
  have f2 := hz0.frozen 2
  have hle : w.heap.size ≤ w.heap.size + 1 + 1 := by omega
  have hm : (a.c < b.c ∧ max a.c b.c = b.c) ∨ (¬ a.c < b.c ∧ max a.c b.c = a.c) := by omega
  obtain ⟨C, hC⟩ : ∃ C, max a.c b.c = C := ⟨_, rfl⟩
  rw [hC] at hm
  have hg : greatT a b = if C = 3 then ⟨false, 3, []⟩ else ⟨false, C, bothGo a.vars b.vars []⟩ := by unfold greatT; rw [hC]
  rw [hg]
  clear hg hC
  rcases hm with ⟨h, e⟩ | ⟨h, e⟩
  · have hd : decide (a.c < b.c) = true := by simpa using h
    subst e
    clear h
    by_cases h3 : b.c = 3
    · rw [if_pos h3]
      have h3' : (b.c == 3) = true := by simp [h3]
      clear h3 Hc2
      have hbx := (T3_facts a b A A' n c n' c' w).1
      go_enter Try.func75, Try.ntmps75
      go_wp2_with fail
      have hb3 : Below w.heap.size w (((w.alloc (Obj.cells #[.bool a.never, .int .u8 a.c, .slice A n c] 37)).alloc (Obj.cells #[.bool b.never, .int .u8 b.c, .slice A' n' c'] 37)).alloc (Obj.cells #[.bool false, .int .u8 3, .slice none 0 0] 37)) :=
        (((Below.refl _ _).alloc (Nat.le_refl _) _).alloc (by simp) _).alloc (by simp; omega) _
      exact bodyPost_ret (v := .agg #[.bool false, .int .u8 3, .slice none 0 0]) (by simp [results, Try.results75, go_sem]) rfl ⟨none, 0, 0, rfl, RdI.nil, hb3, fun h => absurd h (by omega)⟩
    · rw [if_neg h3]
      have h3' : (b.c == 3) = false := by simp [h3]
      clear h3
      go_enter Try.func75, Try.ntmps75
      go_wp2_with fail
      rw [← HT0.out]
      refine Hc2.out.mono ?_
      rintro e w3 ⟨A3, n3, c3, rfl, hr3, hb3, hf3⟩
      have HF3 : Hid (0 < n3 → ∃ a, A3 = some a ∧ w.heap.size ≤ a.block) := Lib.hid fun h => by obtain ⟨a, e, ha⟩ := hf3 h; exact ⟨a, e, Nat.le_trans hbel0.size ha⟩
      clear hf3
      have hz3 := hz0.below hb3 hz0.lt
      have hbel3 := hbel0.trans (hb3.mono hbel0.size)
      have z0 : w3.cell? ⟨w.heap.size + 1 + 1, 0, none⟩ = some (.bool false) := hz3.cell 0
      have z1 : w3.cell? ⟨w.heap.size + 1 + 1, 1, none⟩ = some (.int .u8 0) := hz3.cell 1
      have z2 : w3.cell? ⟨w.heap.size + 1 + 1, 2, none⟩ = some (.slice none 0 0) := hz3.cell 2
      have f0 := hz3.frozen 0
      have f1 := hz3.frozen 1
      have f2 := hz3.frozen 2
      clear hb3
      go_wp2_with fail
      have hs := hz3.set3 (.bool false) (.int .u8 b.c) (.slice A3 n3 c3)
      have hb3 := ((hbel3.setCell (p := ⟨w.heap.size + 1 + 1, 0, none⟩) hle (.bool false)).setCell (p := ⟨w.heap.size + 1 + 1, 1, none⟩) hle (.int .u8 b.c)).setCell (p := ⟨w.heap.size + 1 + 1, 2, none⟩) hle (.slice A3 n3 c3)
      have hr9 := (hr3.put3 hz3 (.bool false) (.int .u8 b.c) (.slice A3 n3 c3)).more (B' := (((w3.setCell ⟨w.heap.size + 1 + 1, 0, none⟩ (.bool false)).setCell ⟨w.heap.size + 1 + 1, 1, none⟩ (.int .u8 b.c)).setCell ⟨w.heap.size + 1 + 1, 2, none⟩ (.slice A3 n3 c3)).heap.size) (by simp)
      generalize (((w3.setCell ⟨w.heap.size + 1 + 1, 0, none⟩ (.bool false)).setCell ⟨w.heap.size + 1 + 1, 1, none⟩ (.int .u8 b.c)).setCell ⟨w.heap.size + 1 + 1, 2, none⟩ (.slice A3 n3 c3)) = W3 at hs hb3 hr9 ⊢
      have d0 : W3.cell? ⟨w.heap.size + 1 + 1, 0, none⟩ = some (.bool false) := hs.cell 0
      have d1 : W3.cell? ⟨w.heap.size + 1 + 1, 1, none⟩ = some (.int .u8 b.c) := hs.cell 1
      have d2 : W3.cell? ⟨w.heap.size + 1 + 1, 2, none⟩ = some (.slice A3 n3 c3) := hs.cell 2
      exact bodyPost_ret (v := .agg #[.bool false, .int .u8 b.c, .slice A3 n3 c3]) (by simp [results, Try.results75, go_sem, d0, d1, d2]) rfl ⟨_, _, _, rfl, hr9, hb3, HF3.out⟩
  · have hd : decide (a.c < b.c) = false := by simpa using h
    subst e
    clear h
    by_cases h3 : a.c = 3
    · rw [if_pos h3]
      have h3' : (a.c == 3) = true := by simp [h3]
      clear h3 Hc2
      have hbx := (T3_facts a b A A' n c n' c' w).1
      go_enter Try.func75, Try.ntmps75
      go_wp2_with fail
      have hb3 : Below w.heap.size w (((w.alloc (Obj.cells #[.bool a.never, .int .u8 a.c, .slice A n c] 37)).alloc (Obj.cells #[.bool b.never, .int .u8 b.c, .slice A' n' c'] 37)).alloc (Obj.cells #[.bool false, .int .u8 3, .slice none 0 0] 37)) :=
        (((Below.refl _ _).alloc (Nat.le_refl _) _).alloc (by simp) _).alloc (by simp; omega) _
      exact bodyPost_ret (v := .agg #[.bool false, .int .u8 3, .slice none 0 0]) (by simp [results, Try.results75, go_sem]) rfl ⟨none, 0, 0, rfl, RdI.nil, hb3, fun h => absurd h (by omega)⟩
    · rw [if_neg h3]
      have h3' : (a.c == 3) = false := by simp [h3]
      clear h3
      go_enter Try.func75, Try.ntmps75
      go_wp2_with fail
      rw [← HT0.out]
      refine Hc2.out.mono ?_
      rintro e w3 ⟨A3, n3, c3, rfl, hr3, hb3, hf3⟩
      have HF3 : Hid (0 < n3 → ∃ a, A3 = some a ∧ w.heap.size ≤ a.block) := Lib.hid fun h => by obtain ⟨a, e, ha⟩ := hf3 h; exact ⟨a, e, Nat.le_trans hbel0.size ha⟩
      clear hf3
      have hz3 := hz0.below hb3 hz0.lt
      have hbel3 := hbel0.trans (hb3.mono hbel0.size)
      have z0 : w3.cell? ⟨w.heap.size + 1 + 1, 0, none⟩ = some (.bool false) := hz3.cell 0
      have z1 : w3.cell? ⟨w.heap.size + 1 + 1, 1, none⟩ = some (.int .u8 0) := hz3.cell 1
      have z2 : w3.cell? ⟨w.heap.size + 1 + 1, 2, none⟩ = some (.slice none 0 0) := hz3.cell 2
      have f0 := hz3.frozen 0
      have f1 := hz3.frozen 1
      have f2 := hz3.frozen 2
      clear hb3
      go_wp2_with fail
      have hs := hz3.set3 (.bool false) (.int .u8 a.c) (.slice A3 n3 c3)
      have hb3 := ((hbel3.setCell (p := ⟨w.heap.size + 1 + 1, 0, none⟩) hle (.bool false)).setCell (p := ⟨w.heap.size + 1 + 1, 1, none⟩) hle (.int .u8 a.c)).setCell (p := ⟨w.heap.size + 1 + 1, 2, none⟩) hle (.slice A3 n3 c3)
      have hr9 := (hr3.put3 hz3 (.bool false) (.int .u8 a.c) (.slice A3 n3 c3)).more (B' := (((w3.setCell ⟨w.heap.size + 1 + 1, 0, none⟩ (.bool false)).setCell ⟨w.heap.size + 1 + 1, 1, none⟩ (.int .u8 a.c)).setCell ⟨w.heap.size + 1 + 1, 2, none⟩ (.slice A3 n3 c3)).heap.size) (by simp)
      generalize (((w3.setCell ⟨w.heap.size + 1 + 1, 0, none⟩ (.bool false)).setCell ⟨w.heap.size + 1 + 1, 1, none⟩ (.int .u8 a.c)).setCell ⟨w.heap.size + 1 + 1, 2, none⟩ (.slice A3 n3 c3)) = W3 at hs hb3 hr9 ⊢
      have d0 : W3.cell? ⟨w.heap.size + 1 + 1, 0, none⟩ = some (.bool false) := hs.cell 0
      have d1 : W3.cell? ⟨w.heap.size + 1 + 1, 1, none⟩ = some (.int .u8 a.c) := hs.cell 1
      have d2 : W3.cell? ⟨w.heap.size + 1 + 1, 2, none⟩ = some (.slice A3 n3 c3) := hs.cell 2
      exact bodyPost_ret (v := .agg #[.bool false, .int .u8 a.c, .slice A3 n3 c3]) (by simp [results, Try.results75, go_sem, d0, d1, d2]) rfl ⟨_, _, _, rfl, hr9, hb3, HF3.out⟩



set_option maxHeartbeats 1000000 in
theorem refJoin_g (v1 v2 : Value) (a b : TermD) (w : World) (B : Nat) (h1 : TermV w B v1 a) (h2 : TermV w B v2 b) (hB : B ≤ w.heap.size) (hbig : a.vars.length + b.vars.length ≤ 1099511627776) :
    Calls Try.prog 48 #[v1, v2] w (RetG B (rJoin a b) w) := by
  obtain ⟨A, n, c, rfl, hr⟩ := h1
  obtain ⟨A', n', c', rfl, hr'⟩ := h2
  obtain ⟨an, ac, av⟩ := a
  obtain ⟨bn, bc, bv⟩ := b
  simp only at hr hr'
  have ⟨hbel0, hsz0, ha0, hb0, hz0⟩ := T3_facts ⟨an, ac, av⟩ ⟨bn, bc, bv⟩ A A' n c n' c' w
  have hr0 := (hr.more hB).below hbel0
  have hr0' := (hr'.more hB).below hbel0
  cases an
  · cases bn
    · show Calls _ _ _ _ (RetG B (greatT ⟨false, ac, av⟩ ⟨false, bc, bv⟩) w)
      have hc2 := great_fresh _ _ ⟨false, ac, av⟩ ⟨false, bc, bv⟩ (T3 ⟨false, ac, av⟩ ⟨false, bc, bv⟩ A A' n c n' c' w) w.heap.size w.heap.size ⟨A, n, c, rfl, hr0⟩ ⟨A', n', c', rfl, hr0'⟩ (by omega) (by omega) (by simp at hbig ⊢; omega)
      generalize greatT ⟨false, ac, av⟩ ⟨false, bc, bv⟩ = T at hc2 ⊢
      have Hc2 := Lib.hid hc2
      clear hc2
      go_enter Try.func48, Try.ntmps48
      go_wp2_with fail
      refine Hc2.out.mono ?_
      rintro e w3 ⟨A3, n3, c3, rfl, hr3, hb3, hf3⟩
      have HF3 : Hid (0 < n3 → ∃ a, A3 = some a ∧ (a.block < B ∨ w.heap.size ≤ a.block)) := Lib.hid fun h => by obtain ⟨a, e, ha⟩ := hf3 h; exact ⟨a, e, .inr (Nat.le_trans hbel0.size ha)⟩
      clear hf3
      have hz3 := hz0.below hb3 hz0.lt
      have hbel3 := hbel0.trans (hb3.mono hbel0.size)
      have z0 : w3.cell? ⟨w.heap.size + 1 + 1, 0, none⟩ = some (.bool false) := hz3.cell 0
      have z1 : w3.cell? ⟨w.heap.size + 1 + 1, 1, none⟩ = some (.int .u8 0) := hz3.cell 1
      have z2 : w3.cell? ⟨w.heap.size + 1 + 1, 2, none⟩ = some (.slice none 0 0) := hz3.cell 2
      have f0 := hz3.frozen 0
      have f1 := hz3.frozen 1
      have f2 := hz3.frozen 2
      have hle : w.heap.size ≤ w.heap.size + 1 + 1 := by omega
      clear hb3
      go_wp2_with fail
      have hs := hz3.set3 (.bool T.never) (.int .u8 T.c) (.slice A3 n3 c3)
      have hb3 := ((hbel3.setCell (p := ⟨w.heap.size + 1 + 1, 0, none⟩) hle (.bool T.never)).setCell (p := ⟨w.heap.size + 1 + 1, 1, none⟩) hle (.int .u8 T.c)).setCell (p := ⟨w.heap.size + 1 + 1, 2, none⟩) hle (.slice A3 n3 c3)
      have hr9 := (hr3.put3 hz3 (.bool T.never) (.int .u8 T.c) (.slice A3 n3 c3)).more (B' := (((w3.setCell ⟨w.heap.size + 1 + 1, 0, none⟩ (.bool T.never)).setCell ⟨w.heap.size + 1 + 1, 1, none⟩ (.int .u8 T.c)).setCell ⟨w.heap.size + 1 + 1, 2, none⟩ (.slice A3 n3 c3)).heap.size) (by simp)
      generalize (((w3.setCell ⟨w.heap.size + 1 + 1, 0, none⟩ (.bool T.never)).setCell ⟨w.heap.size + 1 + 1, 1, none⟩ (.int .u8 T.c)).setCell ⟨w.heap.size + 1 + 1, 2, none⟩ (.slice A3 n3 c3)) = W3 at hs hb3 hr9 ⊢
      have d0 : W3.cell? ⟨w.heap.size + 1 + 1, 0, none⟩ = some (.bool T.never) := hs.cell 0
      have d1 : W3.cell? ⟨w.heap.size + 1 + 1, 1, none⟩ = some (.int .u8 T.c) := hs.cell 1
      have d2 : W3.cell? ⟨w.heap.size + 1 + 1, 2, none⟩ = some (.slice A3 n3 c3) := hs.cell 2
      exact bodyPost_ret (v := .agg #[.bool T.never, .int .u8 T.c, .slice A3 n3 c3]) (by simp [results, Try.results48, go_sem, d0, d1, d2]) rfl ⟨_, _, _, rfl, hr9, hb3, HF3.out⟩
    · show Calls _ _ _ _ (RetG B (greatT ⟨false, 2, []⟩ ⟨false, ac, av⟩) w)
      have hc2 := great_fresh _ _ ⟨false, 2, []⟩ ⟨false, ac, av⟩ (T3 ⟨false, ac, av⟩ ⟨true, bc, bv⟩ A A' n c n' c' w) w.heap.size w.heap.size ⟨none, 0, 0, rfl, RdI.nil⟩ ⟨A, n, c, rfl, hr0⟩ (by omega) (by omega) (by simp at hbig ⊢; omega)
      generalize greatT ⟨false, 2, []⟩ ⟨false, ac, av⟩ = T at hc2 ⊢
      have Hc2 := Lib.hid hc2
      clear hc2
      go_enter Try.func48, Try.ntmps48
      go_wp2_with fail
      refine Hc2.out.mono ?_
      rintro e w3 ⟨A3, n3, c3, rfl, hr3, hb3, hf3⟩
      have HF3 : Hid (0 < n3 → ∃ a, A3 = some a ∧ (a.block < B ∨ w.heap.size ≤ a.block)) := Lib.hid fun h => by obtain ⟨a, e, ha⟩ := hf3 h; exact ⟨a, e, .inr (Nat.le_trans hbel0.size ha)⟩
      clear hf3
      have hz3 := hz0.below hb3 hz0.lt
      have hbel3 := hbel0.trans (hb3.mono hbel0.size)
      have z0 : w3.cell? ⟨w.heap.size + 1 + 1, 0, none⟩ = some (.bool false) := hz3.cell 0
      have z1 : w3.cell? ⟨w.heap.size + 1 + 1, 1, none⟩ = some (.int .u8 0) := hz3.cell 1
      have z2 : w3.cell? ⟨w.heap.size + 1 + 1, 2, none⟩ = some (.slice none 0 0) := hz3.cell 2
      have f0 := hz3.frozen 0
      have f1 := hz3.frozen 1
      have f2 := hz3.frozen 2
      have hle : w.heap.size ≤ w.heap.size + 1 + 1 := by omega
      clear hb3
      go_wp2_with fail
      have hs := hz3.set3 (.bool T.never) (.int .u8 T.c) (.slice A3 n3 c3)
      have hb3 := ((hbel3.setCell (p := ⟨w.heap.size + 1 + 1, 0, none⟩) hle (.bool T.never)).setCell (p := ⟨w.heap.size + 1 + 1, 1, none⟩) hle (.int .u8 T.c)).setCell (p := ⟨w.heap.size + 1 + 1, 2, none⟩) hle (.slice A3 n3 c3)
      have hr9 := (hr3.put3 hz3 (.bool T.never) (.int .u8 T.c) (.slice A3 n3 c3)).more (B' := (((w3.setCell ⟨w.heap.size + 1 + 1, 0, none⟩ (.bool T.never)).setCell ⟨w.heap.size + 1 + 1, 1, none⟩ (.int .u8 T.c)).setCell ⟨w.heap.size + 1 + 1, 2, none⟩ (.slice A3 n3 c3)).heap.size) (by simp)
      generalize (((w3.setCell ⟨w.heap.size + 1 + 1, 0, none⟩ (.bool T.never)).setCell ⟨w.heap.size + 1 + 1, 1, none⟩ (.int .u8 T.c)).setCell ⟨w.heap.size + 1 + 1, 2, none⟩ (.slice A3 n3 c3)) = W3 at hs hb3 hr9 ⊢
      have d0 : W3.cell? ⟨w.heap.size + 1 + 1, 0, none⟩ = some (.bool T.never) := hs.cell 0
      have d1 : W3.cell? ⟨w.heap.size + 1 + 1, 1, none⟩ = some (.int .u8 T.c) := hs.cell 1
      have d2 : W3.cell? ⟨w.heap.size + 1 + 1, 2, none⟩ = some (.slice A3 n3 c3) := hs.cell 2
      exact bodyPost_ret (v := .agg #[.bool T.never, .int .u8 T.c, .slice A3 n3 c3]) (by simp [results, Try.results48, go_sem, d0, d1, d2]) rfl ⟨_, _, _, rfl, hr9, hb3, HF3.out⟩
  · cases bn
    · show Calls _ _ _ _ (RetG B (greatT ⟨false, 2, []⟩ ⟨false, bc, bv⟩) w)
      have hc2 := great_fresh _ _ ⟨false, 2, []⟩ ⟨false, bc, bv⟩ (T3 ⟨true, ac, av⟩ ⟨false, bc, bv⟩ A A' n c n' c' w) w.heap.size w.heap.size ⟨none, 0, 0, rfl, RdI.nil⟩ ⟨A', n', c', rfl, hr0'⟩ (by omega) (by omega) (by simp at hbig ⊢; omega)
      generalize greatT ⟨false, 2, []⟩ ⟨false, bc, bv⟩ = T at hc2 ⊢
      have Hc2 := Lib.hid hc2
      clear hc2
      go_enter Try.func48, Try.ntmps48
      go_wp2_with fail
      refine Hc2.out.mono ?_
      rintro e w3 ⟨A3, n3, c3, rfl, hr3, hb3, hf3⟩
      have HF3 : Hid (0 < n3 → ∃ a, A3 = some a ∧ (a.block < B ∨ w.heap.size ≤ a.block)) := Lib.hid fun h => by obtain ⟨a, e, ha⟩ := hf3 h; exact ⟨a, e, .inr (Nat.le_trans hbel0.size ha)⟩
      clear hf3
      have hz3 := hz0.below hb3 hz0.lt
      have hbel3 := hbel0.trans (hb3.mono hbel0.size)
      have z0 : w3.cell? ⟨w.heap.size + 1 + 1, 0, none⟩ = some (.bool false) := hz3.cell 0
      have z1 : w3.cell? ⟨w.heap.size + 1 + 1, 1, none⟩ = some (.int .u8 0) := hz3.cell 1
      have z2 : w3.cell? ⟨w.heap.size + 1 + 1, 2, none⟩ = some (.slice none 0 0) := hz3.cell 2
      have f0 := hz3.frozen 0
      have f1 := hz3.frozen 1
      have f2 := hz3.frozen 2
      have hle : w.heap.size ≤ w.heap.size + 1 + 1 := by omega
      clear hb3
      go_wp2_with fail
      have hs := hz3.set3 (.bool T.never) (.int .u8 T.c) (.slice A3 n3 c3)
      have hb3 := ((hbel3.setCell (p := ⟨w.heap.size + 1 + 1, 0, none⟩) hle (.bool T.never)).setCell (p := ⟨w.heap.size + 1 + 1, 1, none⟩) hle (.int .u8 T.c)).setCell (p := ⟨w.heap.size + 1 + 1, 2, none⟩) hle (.slice A3 n3 c3)
      have hr9 := (hr3.put3 hz3 (.bool T.never) (.int .u8 T.c) (.slice A3 n3 c3)).more (B' := (((w3.setCell ⟨w.heap.size + 1 + 1, 0, none⟩ (.bool T.never)).setCell ⟨w.heap.size + 1 + 1, 1, none⟩ (.int .u8 T.c)).setCell ⟨w.heap.size + 1 + 1, 2, none⟩ (.slice A3 n3 c3)).heap.size) (by simp)
      generalize (((w3.setCell ⟨w.heap.size + 1 + 1, 0, none⟩ (.bool T.never)).setCell ⟨w.heap.size + 1 + 1, 1, none⟩ (.int .u8 T.c)).setCell ⟨w.heap.size + 1 + 1, 2, none⟩ (.slice A3 n3 c3)) = W3 at hs hb3 hr9 ⊢
      have d0 : W3.cell? ⟨w.heap.size + 1 + 1, 0, none⟩ = some (.bool T.never) := hs.cell 0
      have d1 : W3.cell? ⟨w.heap.size + 1 + 1, 1, none⟩ = some (.int .u8 T.c) := hs.cell 1
      have d2 : W3.cell? ⟨w.heap.size + 1 + 1, 2, none⟩ = some (.slice A3 n3 c3) := hs.cell 2
      exact bodyPost_ret (v := .agg #[.bool T.never, .int .u8 T.c, .slice A3 n3 c3]) (by simp [results, Try.results48, go_sem, d0, d1, d2]) rfl ⟨_, _, _, rfl, hr9, hb3, HF3.out⟩
    · show Calls _ _ _ _ (RetG B ⟨true, ac, av⟩ w)
      clear hr0 hr0' hbel0 hsz0 ha0 hb0 hz0
      go_enter Try.func48, Try.ntmps48
      go_wp2_with fail
      have hrm := hr.more hB
      have hb3 : Below w.heap.size w (((w.alloc (Obj.cells #[.bool true, .int .u8 ac, .slice A n c] 37)).alloc (Obj.cells #[.bool true, .int .u8 bc, .slice A' n' c'] 37)).alloc (Obj.cells #[.bool true, .int .u8 ac, .slice A n c] 37)) :=
        (((Below.refl _ _).alloc (Nat.le_refl _) _).alloc (by simp) _).alloc (by simp; omega) _
      exact bodyPost_ret (v := .agg #[.bool true, .int .u8 ac, .slice A n c]) (by simp [results, Try.results48, go_sem]) rfl ⟨_, _, _, rfl, (hrm.below hb3).more hb3.size, hb3, fun h => by obtain ⟨a, e, ha⟩ := (rdI_low hr) h; exact ⟨a, e, .inl ha⟩⟩

theorem refSum_g (v1 v2 : Value) (a b : TermD) (w : World) (B : Nat) (h1 : TermV w B v1 a) (h2 : TermV w B v2 b) (hB : B ≤ w.heap.size) :
    Calls Try.prog 49 #[v1, v2] w (RetG B (rSum a b) w) := by
  obtain ⟨A, n, c, rfl, hr⟩ := h1
  obtain ⟨A', n', c', rfl, hr'⟩ := h2
  obtain ⟨an, ac, av⟩ := a
  obtain ⟨bn, bc, bv⟩ := b
  simp only at hr hr'
  have hrm := hr.more hB
  have hrm' := hr'.more hB
  have hrn : RdI .i64 w w.heap.size none 0 0 [] := RdI.nil
  have hrz : RdI .i64 w B none 0 0 [] := RdI.nil
  cases an
  · cases bn
    · go_enter Try.func49, Try.ntmps49
      go_wp2_with fail
      have hb3 : Below w.heap.size w (((w.alloc (Obj.cells #[.bool false, .int .u8 ac, .slice A n c] 37)).alloc (Obj.cells #[.bool false, .int .u8 bc, .slice A' n' c'] 37)).alloc (Obj.cells #[.bool false, .int .u8 3, .slice none 0 0] 37)) :=
        (((Below.refl _ _).alloc (Nat.le_refl _) _).alloc (by simp) _).alloc (by simp; omega) _
      exact bodyPost_ret (v := .agg #[.bool false, .int .u8 3, .slice none 0 0]) (by simp [results, Try.results49, go_sem]) rfl ⟨_, _, _, rfl, (hrn.below hb3).more hb3.size, hb3, fun h => by obtain ⟨a, e, ha⟩ := (rdI_low hrz) h; exact ⟨a, e, .inl ha⟩⟩
    · go_enter Try.func49, Try.ntmps49
      go_wp2_with fail
      have hb3 : Below w.heap.size w (((w.alloc (Obj.cells #[.bool false, .int .u8 ac, .slice A n c] 37)).alloc (Obj.cells #[.bool true, .int .u8 bc, .slice A' n' c'] 37)).alloc (Obj.cells #[.bool false, .int .u8 ac, .slice A n c] 37)) :=
        (((Below.refl _ _).alloc (Nat.le_refl _) _).alloc (by simp) _).alloc (by simp; omega) _
      exact bodyPost_ret (v := .agg #[.bool false, .int .u8 ac, .slice A n c]) (by simp [results, Try.results49, go_sem]) rfl ⟨_, _, _, rfl, (hrm.below hb3).more hb3.size, hb3, fun h => by obtain ⟨a, e, ha⟩ := (rdI_low hr) h; exact ⟨a, e, .inl ha⟩⟩
  · go_enter Try.func49, Try.ntmps49
    go_wp2_with fail
    have hb3 : Below w.heap.size w (((w.alloc (Obj.cells #[.bool true, .int .u8 ac, .slice A n c] 37)).alloc (Obj.cells #[.bool bn, .int .u8 bc, .slice A' n' c'] 37)).alloc (Obj.cells #[.bool bn, .int .u8 bc, .slice A' n' c'] 37)) :=
      (((Below.refl _ _).alloc (Nat.le_refl _) _).alloc (by simp) _).alloc (by simp; omega) _
    exact bodyPost_ret (v := .agg #[.bool bn, .int .u8 bc, .slice A' n' c']) (by simp [results, Try.results49, go_sem]) rfl ⟨_, _, _, rfl, (hrm'.below hb3).more hb3.size, hb3, fun h => by obtain ⟨a, e, ha⟩ := (rdI_low hr') h; exact ⟨a, e, .inl ha⟩⟩


set_option maxHeartbeats 1000000 in
theorem refScale_g (c v : Int) (tv : Value) (t : TermD) (w : World) (B : Nat) (hv : TermV w B tv t) (hB : B ≤ w.heap.size) (hbig : t.vars.length ≤ 1048576) :
    Calls Try.prog 61 #[.agg #[.int .i64 v, .int .u8 c], tv] w (RetG B (rScale c v t) w) := by
  obtain ⟨A, n, cp, rfl, hr⟩ := hv
  obtain ⟨tn, tc, ts⟩ := t
  simp only at hr hbig
  have Hlow := Lib.hid (rdI_low hr)
  replace hr := hr.more hB
  cases tn
  · have hbel0 : Below w.heap.size w (((w.alloc (Obj.cells #[.int .i64 v, .int .u8 c] 46)).alloc (Obj.cells #[.bool false, .int .u8 tc, .slice A n cp] 37)).alloc (Obj.cells #[.bool false, .int .u8 0, .slice none 0 0] 37)) :=
      (((Below.refl _ _).alloc (Nat.le_refl _) _).alloc (by simp) _).alloc (by simp; omega) _
    have hz0 := blk_new ((w.alloc (Obj.cells #[.int .i64 v, .int .u8 c] 46)).alloc (Obj.cells #[.bool false, .int .u8 tc, .slice A n cp] 37)) #[.bool false, .int .u8 0, .slice none 0 0] 37
    rw [World.size_alloc, World.size_alloc] at hz0
    have hsz : (((w.alloc (Obj.cells #[.int .i64 v, .int .u8 c] 46)).alloc (Obj.cells #[.bool false, .int .u8 tc, .slice A n cp] 37)).alloc (Obj.cells #[.bool false, .int .u8 0, .slice none 0 0] 37)).heap.size = w.heap.size + 1 + 1 + 1 := by simp
    have hr0 := hr.below hbel0
    obtain ⟨W, hW⟩ : ∃ W, ((w.alloc (Obj.cells #[.int .i64 v, .int .u8 c] 46)).alloc (Obj.cells #[.bool false, .int .u8 tc, .slice A n cp] 37)).alloc (Obj.cells #[.bool false, .int .u8 0, .slice none 0 0] 37) = W := ⟨_, rfl⟩
    rw [hW] at hbel0 hz0 hsz hr0
    have HW := Lib.hid hW
    clear hW
    by_cases h0 : c = 0
    · have d : (c != 0) = false := by simp [h0]
      have hs : rScale c v ⟨false, tc, ts⟩ = greatT ⟨false, 1, [v]⟩ ⟨false, tc, ts⟩ := by unfold rScale; simp [h0]
      rw [hs]
      have hb4 : Below W.heap.size W (W.alloc (Obj.cells #[.int .i64 v] 3)) := (Below.refl _ _).alloc (Nat.le_refl _) _
      have hrd : RdI .i64 (W.alloc (Obj.cells #[.int .i64 v] 3)) (W.heap.size + 1) (some ⟨W.heap.size, 0, none⟩) 1 1 [v] := ⟨Rd.new W [.int .i64 v] 3, Nat.le_refl _, by unfold maxLen; omega⟩
      have hq := great_fresh (.agg #[.bool false, .int .u8 1, .slice (some ⟨W.heap.size, 0, none⟩) 1 1]) (.agg #[.bool false, .int .u8 tc, .slice A n cp]) ⟨false, 1, [v]⟩ ⟨false, tc, ts⟩ (W.alloc (Obj.cells #[.int .i64 v] 3)) _ w.heap.size ⟨_, 1, 1, rfl, hrd⟩ ⟨A, n, cp, rfl, hr0.below (hb4.mono (by omega))⟩ (by simp) (by simp; omega) (by simp; omega)
      generalize greatT ⟨false, 1, [v]⟩ ⟨false, tc, ts⟩ = T at hq ⊢
      have Hq := Lib.hid hq
      clear hq hs h0 hrd
      go_enter Try.func61, Try.ntmps61
      go_wp2_with fail
      rw [HW.out, ← hsz]
      refine Hq.out.mono ?_
      rintro e w3 ⟨A3, n3, c3, rfl, hr3, hb3, hf3⟩
      replace hb3 := hb4.trans (hb3.mono hb4.size)
      obtain ⟨hz3, hbel3⟩ : Blk w3 (w.heap.size + 1 + 1) 37 #[.bool false, .int .u8 0, .slice none 0 0] ∧ Below w.heap.size w w3 := ⟨hz0.below hb3 hz0.lt, hbel0.trans (hb3.mono hbel0.size)⟩
      have z0 : w3.cell? ⟨w.heap.size + 1 + 1, 0, none⟩ = some (.bool false) := hz3.cell 0
      have z1 : w3.cell? ⟨w.heap.size + 1 + 1, 1, none⟩ = some (.int .u8 0) := hz3.cell 1
      have z2 : w3.cell? ⟨w.heap.size + 1 + 1, 2, none⟩ = some (.slice none 0 0) := hz3.cell 2
      have f0 := hz3.frozen 0
      have f1 := hz3.frozen 1
      have f2 := hz3.frozen 2
      have hle : w.heap.size ≤ w.heap.size + 1 + 1 := by omega
      have HF3 : Hid (0 < n3 → ∃ a, A3 = some a ∧ (a.block < B ∨ w.heap.size ≤ a.block)) := Lib.hid fun h => by obtain ⟨a, e, ha⟩ := hf3 h; exact ⟨a, e, .inr (by have := hbel0.size; (try simp only [World.size_alloc] at ha); omega)⟩
      clear hb3
      go_wp2_with fail
      have hs := hz3.set3 (.bool T.never) (.int .u8 T.c) (.slice A3 n3 c3)
      have hb3 := ((hbel3.setCell (p := ⟨w.heap.size + 1 + 1, 0, none⟩) hle (.bool T.never)).setCell (p := ⟨w.heap.size + 1 + 1, 1, none⟩) hle (.int .u8 T.c)).setCell (p := ⟨w.heap.size + 1 + 1, 2, none⟩) hle (.slice A3 n3 c3)
      have hr9 := (hr3.put3 hz3 (.bool T.never) (.int .u8 T.c) (.slice A3 n3 c3)).more (B' := (((w3.setCell ⟨w.heap.size + 1 + 1, 0, none⟩ (.bool T.never)).setCell ⟨w.heap.size + 1 + 1, 1, none⟩ (.int .u8 T.c)).setCell ⟨w.heap.size + 1 + 1, 2, none⟩ (.slice A3 n3 c3)).heap.size) (by simp)
      generalize (((w3.setCell ⟨w.heap.size + 1 + 1, 0, none⟩ (.bool T.never)).setCell ⟨w.heap.size + 1 + 1, 1, none⟩ (.int .u8 T.c)).setCell ⟨w.heap.size + 1 + 1, 2, none⟩ (.slice A3 n3 c3)) = W3 at hs hb3 hr9 ⊢
      have d0 : W3.cell? ⟨w.heap.size + 1 + 1, 0, none⟩ = some (.bool T.never) := hs.cell 0
      have d1 : W3.cell? ⟨w.heap.size + 1 + 1, 1, none⟩ = some (.int .u8 T.c) := hs.cell 1
      have d2 : W3.cell? ⟨w.heap.size + 1 + 1, 2, none⟩ = some (.slice A3 n3 c3) := hs.cell 2
      exact bodyPost_ret (v := .agg #[.bool T.never, .int .u8 T.c, .slice A3 n3 c3]) (by simp [results, Try.results61, go_sem, d0, d1, d2]) rfl ⟨_, _, _, rfl, hr9, hb3, HF3.out⟩
    · have d : (c != 0) = true := by simp [h0]
      have hs : rScale c v ⟨false, tc, ts⟩ = greatT ⟨false, c, []⟩ ⟨false, tc, ts⟩ := by unfold rScale; simp [h0]
      rw [hs]
      have hq := great_fresh (.agg #[.bool false, .int .u8 c, .slice none 0 0]) (.agg #[.bool false, .int .u8 tc, .slice A n cp]) ⟨false, c, []⟩ ⟨false, tc, ts⟩ W w.heap.size w.heap.size ⟨none, 0, 0, rfl, RdI.nil⟩ ⟨A, n, cp, rfl, hr0⟩ (by omega) (by omega) (by simp; omega)
      generalize greatT ⟨false, c, []⟩ ⟨false, tc, ts⟩ = T at hq ⊢
      have Hq := Lib.hid hq
      clear hq hs h0
      go_enter Try.func61, Try.ntmps61
      go_wp2_with fail
      rw [HW.out]
      refine Hq.out.mono ?_
      rintro e w3 ⟨A3, n3, c3, rfl, hr3, hb3, hf3⟩
      obtain ⟨hz3, hbel3⟩ : Blk w3 (w.heap.size + 1 + 1) 37 #[.bool false, .int .u8 0, .slice none 0 0] ∧ Below w.heap.size w w3 := ⟨hz0.below hb3 hz0.lt, hbel0.trans (hb3.mono hbel0.size)⟩
      have z0 : w3.cell? ⟨w.heap.size + 1 + 1, 0, none⟩ = some (.bool false) := hz3.cell 0
      have z1 : w3.cell? ⟨w.heap.size + 1 + 1, 1, none⟩ = some (.int .u8 0) := hz3.cell 1
      have z2 : w3.cell? ⟨w.heap.size + 1 + 1, 2, none⟩ = some (.slice none 0 0) := hz3.cell 2
      have f0 := hz3.frozen 0
      have f1 := hz3.frozen 1
      have f2 := hz3.frozen 2
      have hle : w.heap.size ≤ w.heap.size + 1 + 1 := by omega
      have HF3 : Hid (0 < n3 → ∃ a, A3 = some a ∧ (a.block < B ∨ w.heap.size ≤ a.block)) := Lib.hid fun h => by obtain ⟨a, e, ha⟩ := hf3 h; exact ⟨a, e, .inr (by have := hbel0.size; (try simp only [World.size_alloc] at ha); omega)⟩
      clear hb3
      go_wp2_with fail
      have hs := hz3.set3 (.bool T.never) (.int .u8 T.c) (.slice A3 n3 c3)
      have hb3 := ((hbel3.setCell (p := ⟨w.heap.size + 1 + 1, 0, none⟩) hle (.bool T.never)).setCell (p := ⟨w.heap.size + 1 + 1, 1, none⟩) hle (.int .u8 T.c)).setCell (p := ⟨w.heap.size + 1 + 1, 2, none⟩) hle (.slice A3 n3 c3)
      have hr9 := (hr3.put3 hz3 (.bool T.never) (.int .u8 T.c) (.slice A3 n3 c3)).more (B' := (((w3.setCell ⟨w.heap.size + 1 + 1, 0, none⟩ (.bool T.never)).setCell ⟨w.heap.size + 1 + 1, 1, none⟩ (.int .u8 T.c)).setCell ⟨w.heap.size + 1 + 1, 2, none⟩ (.slice A3 n3 c3)).heap.size) (by simp)
      generalize (((w3.setCell ⟨w.heap.size + 1 + 1, 0, none⟩ (.bool T.never)).setCell ⟨w.heap.size + 1 + 1, 1, none⟩ (.int .u8 T.c)).setCell ⟨w.heap.size + 1 + 1, 2, none⟩ (.slice A3 n3 c3)) = W3 at hs hb3 hr9 ⊢
      have d0 : W3.cell? ⟨w.heap.size + 1 + 1, 0, none⟩ = some (.bool T.never) := hs.cell 0
      have d1 : W3.cell? ⟨w.heap.size + 1 + 1, 1, none⟩ = some (.int .u8 T.c) := hs.cell 1
      have d2 : W3.cell? ⟨w.heap.size + 1 + 1, 2, none⟩ = some (.slice A3 n3 c3) := hs.cell 2
      exact bodyPost_ret (v := .agg #[.bool T.never, .int .u8 T.c, .slice A3 n3 c3]) (by simp [results, Try.results61, go_sem, d0, d1, d2]) rfl ⟨_, _, _, rfl, hr9, hb3, HF3.out⟩
  · go_enter Try.func61, Try.ntmps61
    go_wp2_with fail
    have hb3 : Below w.heap.size w (((w.alloc (Obj.cells #[.int .i64 v, .int .u8 c] 46)).alloc (Obj.cells #[.bool true, .int .u8 tc, .slice A n cp] 37)).alloc (Obj.cells #[.bool true, .int .u8 tc, .slice A n cp] 37)) :=
      (((Below.refl _ _).alloc (Nat.le_refl _) _).alloc (by simp) _).alloc (by simp; omega) _
    exact bodyPost_ret (v := .agg #[.bool true, .int .u8 tc, .slice A n cp]) (by simp [results, Try.results61, go_sem]) rfl ⟨_, _, _, rfl, (hr.below hb3).more hb3.size, hb3, fun h => by obtain ⟨a, e, ha⟩ := Hlow.out h; exact ⟨a, e, .inl ha⟩⟩


end Go.Proofs.Ytimlbpjdgnapoaa

/- usufructref17: Of, put, Less. -/
namespace Go.Proofs.Ytimlbpjdgnapoaa
set_option linter.unusedVariables false
set_option linter.unusedSimpArgs false
open Go.RowKit

theorem ofU_first {xs : List UseD} {v : Int} {k : Nat} (h : k < xs.length) (hv : xs[k].v = v) (hb : ∀ j (h : j < xs.length), j < k → xs[j].v ≠ v) : ofU xs v = xs[k].t := by
  have : xs.find? (fun x => x.v == v) = some xs[k] := by
    rw [List.find?_eq_some_iff_getElem]
    refine ⟨by simp [hv], k, h, rfl, fun j hj => ?_⟩
    have := hb j (by omega) hj
    simpa using this
  unfold ofU
  rw [this]

set_option maxHeartbeats 1000000 in
theorem refOf_any (B : Nat) (v : Int) (A : Option Addr) (n c : Nat) (xs : List UseD) (w : World) (hx : UsesV w B A n c xs) (hB : B ≤ w.heap.size) :
    Calls Try.prog 26 #[.slice A n c, .int .i64 v] w (RetL B (ofU xs v) w) := by
  have hxl := hx.len
  have n63 : n ≤ 9223372036854775807 := Nat.le_trans hx.2.1 hx.2.2.1
  have hb0 := below_box (w := w) (Obj.cells #[.bool false, .int .u8 0, .slice none 0 0] 37)
  have hk0 := blk_new w #[.bool false, .int .u8 0, .slice none 0 0] 37
  have hx0 := hx.below (hb0.mono hB)
  have HB := Lib.hid hB
  have Hb0 := Lib.hid hb0
  have Hx := Lib.hid hx0
  have hkk : ∀ i, (w.alloc (Obj.cells #[.bool false, .int .u8 0, .slice none 0 0] 37)).frozen? ⟨w.heap.size, i, none⟩ = false := fun i => hk0.frozen i
  have c0 : (w.alloc (Obj.cells #[.bool false, .int .u8 0, .slice none 0 0] 37)).cell? ⟨w.heap.size, 0, none⟩ = some (.bool false) := hk0.cell 0
  have c1 : (w.alloc (Obj.cells #[.bool false, .int .u8 0, .slice none 0 0] 37)).cell? ⟨w.heap.size, 1, none⟩ = some (.int .u8 0) := hk0.cell 1
  have c2 : (w.alloc (Obj.cells #[.bool false, .int .u8 0, .slice none 0 0] 37)).cell? ⟨w.heap.size, 2, none⟩ = some (.slice none 0 0) := hk0.cell 2
  have f0 := hkk 0
  have f1 := hkk 1
  have f2 := hkk 2
  have Hk0 := Lib.hid hk0
  obtain ⟨T, hT⟩ : ∃ T, ofU xs v = T := ⟨_, rfl⟩
  rw [hT]
  have HT := Lib.hid hT
  clear hx hb0 hx0 hk0 hkk hB hT
  go_enter Try.func26, Try.ntmps26
  go_wp2_with fail
  generalize (w.alloc (Obj.cells #[.bool false, .int .u8 0, .slice none 0 0] 37)) = W at Hb0 Hx c0 c1 c2 f0 f1 f2 Hk0 ⊢
  go_loopg [5] n (fun gh i wr => ∃ k : Nat, k ≤ n ∧ gh = n - k ∧ i = .int .i64 k ∧ (∀ j (h : j < xs.length), j < k → xs[j].v ≠ v) ∧ W = wr)
  case atStart => exact ⟨0, Nat.zero_le _, rfl, rfl, fun j _ h => absurd h (by omega), rfl⟩
  case round =>
    obtain ⟨k, hk, rfl, rfl, hno, rfl⟩ := hrel
    have Hno := Lib.hid hno
    clear hno
    by_cases hkn : k < n
    · have d0 : decide (k < n) = true := by simpa using hkn
      obtain ⟨b, o, q, hb, hc⟩ := Hx.out.at_ (by omega)
      subst q
      have hk' : k < xs.length := by omega
      obtain ⟨e0, Ax, nx, cx, e1, e2, e3, hrx⟩ := hc k hk'
      obtain ⟨x, hxk⟩ : ∃ x, xs[k] = x := ⟨_, rfl⟩
      rw [hxk] at e0 e1 e2 hrx
      replace e2 : W.cell? ⟨b, o + k * 4 + 2, none⟩ = some (.int .u8 x.t.c) := e2
      replace e3 : W.cell? ⟨b, o + k * 4 + 3, none⟩ = some (.slice Ax nx cx) := e3
      have Hrx := Lib.hid hrx
      have k1 : (0 : Int) ≤ (k : Int) := by omega
      have k2 : (k : Int) < n := by omega
      by_cases hv : x.v = v
      · have d1 : (x.v == v) = true := by simp [hv]
        have hof : ofU xs v = x.t := by rw [← hxk]; exact ofU_first hk' (by rw [hxk]; exact hv) Hno.out
        have hTe : T = x.t := HT.out.symm.trans hof
        clear HT
        subst hTe
        clear hc hrx hxk hof Hno hv
        obtain ⟨xv, nv, tc, vs⟩ := x
        dsimp only at e0 e1 e2 Hrx d1 ⊢
        go_wp2_with fail
        have hs := Hk0.out.set3 (.bool nv) (.int .u8 tc) (.slice Ax nx cx)
        have hb3 := ((Hb0.out.setCell (p := ⟨w.heap.size, 0, none⟩) (Nat.le_refl _) (.bool nv)).setCell (p := ⟨w.heap.size, 1, none⟩) (Nat.le_refl _) (.int .u8 tc)).setCell (p := ⟨w.heap.size, 2, none⟩) (Nat.le_refl _) (.slice Ax nx cx)
        have hr9 := Hrx.out.put3 Hk0.out (.bool nv) (.int .u8 tc) (.slice Ax nx cx)
        generalize (((W.setCell ⟨w.heap.size, 0, none⟩ (.bool nv)).setCell ⟨w.heap.size, 1, none⟩ (.int .u8 tc)).setCell ⟨w.heap.size, 2, none⟩ (.slice Ax nx cx)) = W3 at hs hb3 hr9 ⊢
        have d0 : W3.cell? ⟨w.heap.size, 0, none⟩ = some (.bool nv) := hs.cell 0
        have d1 : W3.cell? ⟨w.heap.size, 1, none⟩ = some (.int .u8 tc) := hs.cell 1
        have d2 : W3.cell? ⟨w.heap.size, 2, none⟩ = some (.slice Ax nx cx) := hs.cell 2
        exact bodyPost_ret (v := .agg #[.bool nv, .int .u8 tc, .slice Ax nx cx]) (by simp [results, Try.results26, go_sem, d0, d1, d2]) rfl ⟨_, _, _, rfl, hr9, hb3⟩
      · have d1 : (x.v == v) = false := by simp [hv]
        have hno2 : ∀ j (h : j < xs.length), j < k + 1 → xs[j].v ≠ v := fun j h hj => by
          rcases Nat.lt_or_ge j k with h' | h'
          · exact Hno.out j h h'
          · have : j = k := by omega
            subst this
            rw [hxk]; exact hv
        have Hno2 := Lib.hid hno2
        clear hc hrx hxk hno2 Hno hv
        go_wp2_with fail
        go_roundg (n - (k + 1))
        case measure => omega
        case rel => exact ⟨k + 1, by omega, rfl, by go_num, Hno2.out, rfl⟩
    · have d0 : decide (k < n) = false := by simpa using hkn
      have hof : ofU xs v = ⟨true, 0, []⟩ := ofU_none fun x hx => by
        obtain ⟨j, hj, rfl⟩ := List.getElem_of_mem hx
        exact Hno.out j hj (by omega)
      have Hrx : Hid (RdI .i64 W B none 0 0 []) := Lib.hid RdI.nil
      have hTe : T = ⟨true, 0, []⟩ := HT.out.symm.trans hof
      clear HT
      subst hTe
      clear hof Hno
      go_wp2_with fail
      have hs := Hk0.out.set3 (.bool true) (.int .u8 0) (.slice none 0 0)
      have hb3 := ((Hb0.out.setCell (p := ⟨w.heap.size, 0, none⟩) (Nat.le_refl _) (.bool true)).setCell (p := ⟨w.heap.size, 1, none⟩) (Nat.le_refl _) (.int .u8 0)).setCell (p := ⟨w.heap.size, 2, none⟩) (Nat.le_refl _) (.slice none 0 0)
      have hr9 := Hrx.out.put3 Hk0.out (.bool true) (.int .u8 0) (.slice none 0 0)
      generalize (((W.setCell ⟨w.heap.size, 0, none⟩ (.bool true)).setCell ⟨w.heap.size, 1, none⟩ (.int .u8 0)).setCell ⟨w.heap.size, 2, none⟩ (.slice none 0 0)) = W3 at hs hb3 hr9 ⊢
      have d0 : W3.cell? ⟨w.heap.size, 0, none⟩ = some (.bool true) := hs.cell 0
      have d1 : W3.cell? ⟨w.heap.size, 1, none⟩ = some (.int .u8 0) := hs.cell 1
      have d2 : W3.cell? ⟨w.heap.size, 2, none⟩ = some (.slice none 0 0) := hs.cell 2
      exact bodyPost_ret (v := .agg #[.bool true, .int .u8 0, .slice none 0 0]) (by simp [results, Try.results26, go_sem, d0, d1, d2]) rfl ⟨_, _, _, rfl, hr9, hb3⟩

set_option maxHeartbeats 1000000 in
theorem put_any (base n : Nat) (v0 : Value) (xs : List UseD) (v : Int) (t : TermD) (A : Option Addr) (m c : Nat) (w0 w : World) (hown : OwnU w base v0 n xs) (hn : n ≤ 1099511627776) (hnv : t.never = false) (hr : RdI .i64 w w.heap.size A m c t.vars) (hf : 0 < m → ∃ a, A = some a ∧ some a.block ≠ v0.ownBlock) (hbel : Below base w0 w) (hbase : base ≤ w.heap.size) :
    Calls Try.prog 47 #[v0, .int .i64 v, .agg #[.bool t.never, .int .u8 t.c, .slice A m c]] w fun e w' => ∃ A' c', e = .returned (.slice A' (n + 1) c') ∧ OwnU w' base (.slice A' (n + 1) c') (n + 1) (xs ++ [⟨v, t⟩]) ∧ Below base w0 w' ∧ w.heap.size ≤ w'.heap.size := by
  obtain ⟨i2, hu0, hu1, hu2, hu3⟩ := info_parts usageInfo
  obtain ⟨nv, tc, vs⟩ := t
  dsimp only at hnv hr ⊢
  subst hnv
  have hbx := below_box (w := w) (Obj.cells #[.bool false, .int .u8 tc, .slice A m c] 37)
  have hou := hown.beyond hbx
  have hr2 := (hr.below hbx).more hbx.size
  have hbel2 := hbel.trans (hbx.mono hbase)
  have Hsz := Lib.hid hbx.size
  have Hbase := Lib.hid (Nat.le_trans hbase hbx.size)
  have Hou := Lib.hid hou
  have Hr := Lib.hid hr2
  have Hf := Lib.hid hf
  have Hbel := Lib.hid hbel2
  clear hou hr2 hbel2 hbx hown hr hf hbel
  go_enter Try.func47, Try.ntmps47
  go_wp2_with (at_builtin; go_must (refine wpList_append_use (w.alloc (Obj.cells #[.bool false, .int .u8 tc, .slice A m c] 37)) (w.alloc (Obj.cells #[.bool false, .int .u8 tc, .slice A m c] 37)) rfl (.tmp 10) (.tmp 14) 25 rfl base i2 _ Try.underlying25 hu0 hu1 hu2 hu3 rfl v0 n xs rfl ⟨v, ⟨false, tc, vs⟩⟩ A m c Hr.out Hf.out (by rw [World.size_alloc]; rfl) Hou.out hn (Below.refl _ _) Hbase.out ?_); intro A10 c10 w10 ho10 hb10)
  go_ret
  exact ⟨A10, c10, rfl, ho10, Hbel.out.trans hb10, Nat.le_trans Hsz.out hb10.size⟩

set_option maxHeartbeats 1000000 in
theorem less_any (v : Int) (A : Option Addr) (n c : Nat) (xs : List UseD) (w : World) (hx : UsesV w w.heap.size A n c xs) (hn : n ≤ 1048576) :
    Calls Try.prog 27 #[.slice A n c, .int .i64 v] w (RetU (xs.filter fun t => t.v != v) w) := by
  obtain ⟨i2, hu0, hu1, hu2, hu3⟩ := info_parts usageInfo
  have hxl := hx.len
  have n63 : n ≤ 9223372036854775807 := by omega
  have Hx := Lib.hid hx
  clear hx
  go_enter Try.func27, Try.ntmps27
  go_wp2_with fail
  go_loopg [5, 6] n (fun gh o i wr => ∃ (k m : Nat), k ≤ n ∧ gh = n - k ∧ i = .int .i64 k ∧ m ≤ k ∧ OwnU wr w.heap.size o m ((xs.take k).filter fun t => t.v != v) ∧ Below w.heap.size w wr)
  case atStart => exact ⟨0, 0, Nat.zero_le _, rfl, rfl, Nat.le_refl _, OwnU.nil _ _, Below.refl _ _⟩
  case round =>
    obtain ⟨k, m, hk, rfl, rfl, hm, ho, hbel⟩ := hrel
    by_cases hkn : k < n
    · have d0 : decide (k < n) = true := by simpa using hkn
      obtain ⟨b, o, q, hb, hc⟩ := (Hx.out.below hbel).at_ (by omega)
      subst q
      have hk' : k < xs.length := by omega
      obtain ⟨e0, Ax, nx, cx, e1, e2, e3, hrx⟩ := hc k hk'
      have hstep := filter_take_succU (fun t => t.v != v) xs k hk'
      obtain ⟨x, hxk⟩ : ∃ x, xs[k] = x := ⟨_, rfl⟩
      rw [hxk] at e0 e1 e2 hrx hstep
      replace e2 : wr.cell? ⟨b, o + k * 4 + 2, none⟩ = some (.int .u8 x.t.c) := e2
      replace e3 : wr.cell? ⟨b, o + k * 4 + 3, none⟩ = some (.slice Ax nx cx) := e3
      have k1 : (0 : Int) ≤ (k : Int) := by omega
      have k2 : (k : Int) < n := by omega
      have Hrx := Lib.hid (hrx.more hbel.size)
      have hlow := rdI_low hrx
      have hlt := ho.lt
      obtain ⟨A1, c1, rfl⟩ := ho.form
      have hf : 0 < nx → ∃ a, Ax = some a ∧ some a.block ≠ (Value.slice A1 m c1).ownBlock := fun h => by
        obtain ⟨a, e, ha⟩ := hlow h
        refine ⟨a, e, fun e' => ?_⟩
        have := (hlt _ e'.symm).1
        omega
      have Hf := Lib.hid hf
      have Ho := Lib.hid ho
      have Hbel := Lib.hid hbel
      by_cases hv : x.v = v
      · have d1 : (x.v != v) = false := by simp [hv]
        rw [d1] at hstep
        simp only [Bool.false_eq_true, if_false, List.append_nil] at hstep
        have Hst := Lib.hid hstep
        clear hstep hc hrx hxk hlow hlt hf ho hbel hv
        go_wp2_with fail
        go_roundg (n - (k + 1))
        case measure => omega
        case rel => exact ⟨k + 1, m, by omega, rfl, by go_num, by omega, by rw [Hst.out]; exact Ho.out, Hbel.out⟩
      · have d1 : (x.v != v) = true := by simp [hv]
        rw [d1] at hstep
        simp only [if_true] at hstep
        have Hst := Lib.hid hstep
        clear hstep hc hrx hxk hlow hlt hf ho hbel hv
        go_wp2_with (at_builtin; go_must (refine wpList_append_use w wr rfl (.tmp 20) (.tmp 25) 25 rfl w.heap.size i2 _ Try.underlying25 hu0 hu1 hu2 hu3 rfl (.slice A1 m c1) m _ rfl x Ax nx cx Hrx.out Hf.out rfl Ho.out (by omega) Hbel.out Hbel.out.size ?_); intro A10 c10 w10 ho10 hb10)
        go_roundg (n - (k + 1))
        case measure => omega
        case rel => exact ⟨k + 1, m + 1, by omega, rfl, by go_num, by omega, by rw [Hst.out]; exact ho10, hb10⟩
    · have d0 : decide (k < n) = false := by simpa using hkn
      rw [List.take_of_length_le (by omega)] at ho
      obtain ⟨A1, c1, rfl⟩ := ho.form
      have HU := Lib.hid ho.uses.2
      have Hbel := Lib.hid hbel
      clear ho hbel
      go_wp2_with fail
      go_ret
      exact ⟨A1, m, c1, rfl, HU.out, Hbel.out⟩

end Go.Proofs.Ytimlbpjdgnapoaa

/- usufructref17: Has, Same, May. -/
namespace Go.Proofs.Ytimlbpjdgnapoaa
set_option linter.unusedVariables false
set_option linter.unusedSimpArgs false
open Go.RowKit

set_option maxHeartbeats 1000000 in
theorem hasU_any (v : Int) (A : Option Addr) (n c : Nat) (xs : List UseD) (w : World) (hx : UsesV w w.heap.size A n c xs) :
    Calls Try.prog 33 #[.slice A n c, .int .i64 v] w fun e w' => e = .returned (.bool ((allVs xs).contains v)) ∧ w = w' := by
  have hxl := hx.len
  have n63 : n ≤ 9223372036854775807 := Nat.le_trans hx.2.1 hx.2.2.1
  have Hx := Lib.hid hx
  clear hx
  obtain ⟨r, hr⟩ : ∃ r, (allVs xs).contains v = r := ⟨_, rfl⟩
  rw [hr]
  have HR := Lib.hid hr
  clear hr
  go_enter Try.func33, Try.ntmps33
  go_wp2_with fail
  go_loopg [5] n (fun gh i wr => ∃ k : Nat, k ≤ n ∧ gh = n - k ∧ i = .int .i64 k ∧ (∀ j (h : j < xs.length), j < k → v ∉ xs[j].t.vars) ∧ w = wr)
  case atStart => exact ⟨0, Nat.zero_le _, rfl, rfl, fun j _ h => absurd h (by omega), rfl⟩
  case round =>
    obtain ⟨k, hk, rfl, rfl, hno, rfl⟩ := hrel
    have Hno := Lib.hid hno
    clear hno
    by_cases hkn : k < n
    · have d0 : decide (k < n) = true := by simpa using hkn
      obtain ⟨b, o, q, hb, hc⟩ := Hx.out.at_ (by omega)
      subst q
      have hk' : k < xs.length := by omega
      obtain ⟨e0, Ax, nx, cx, e1, e2, e3, hrx⟩ := hc k hk'
      obtain ⟨x, hxk⟩ : ∃ x, xs[k] = x := ⟨_, rfl⟩
      rw [hxk] at hrx
      replace e3 : w.cell? ⟨b, o + k * 4 + 3, none⟩ = some (.slice Ax nx cx) := e3
      have nx63 : nx ≤ 9223372036854775807 := Nat.le_trans hrx.2.1 hrx.2.2
      have hxlen := hrx.len
      have Hrx := Lib.hid hrx
      have Hxk := Lib.hid hxk
      have k1 : (0 : Int) ≤ (k : Int) := by omega
      have k2 : (k : Int) < n := by omega
      clear hc hrx hxk e0 e1 e2
      go_wp2_with fail
      go_loopg [6] nx (fun gh i wr => ∃ j : Nat, j ≤ nx ∧ gh = nx - j ∧ i = .int .i64 j ∧ (∀ q (h : q < x.t.vars.length), q < j → x.t.vars[q] ≠ v) ∧ w = wr)
      case atStart => exact ⟨0, Nat.zero_le _, rfl, rfl, fun q _ h => absurd h (by omega), rfl⟩
      case round =>
        obtain ⟨j, hj, rfl, rfl, hnj, rfl⟩ := hrel
        have Hnj := Lib.hid hnj
        clear hnj
        by_cases hjn : j < nx
        · have d1 : decide (j < nx) = true := by simpa using hjn
          obtain ⟨b2, o2, q2, hb2, hc2⟩ := Hrx.out.at_ (by omega)
          subst q2
          have hj' : j < x.t.vars.length := by omega
          have v0 := hc2 j hj'
          have j1 : (0 : Int) ≤ (j : Int) := by omega
          have j2 : (j : Int) < nx := by omega
          clear hc2
          by_cases hv : x.t.vars[j] = v
          · have d2 : (x.t.vars[j] == v) = true := by simp [hv]
            have hre : r = true := by
              rw [← HR.out]
              rw [List.contains_iff_mem]
              exact List.mem_flatMap.2 ⟨x, by rw [← Hxk.out]; exact List.getElem_mem hk', by rw [← hv]; exact List.getElem_mem hj'⟩
            subst hre
            clear HR hv Hnj Hno
            go_wp2_with fail
            go_ret
            exact ⟨rfl, rfl⟩
          · have d2 : (x.t.vars[j] == v) = false := by simp [hv]
            have hnj2 : ∀ q (h : q < x.t.vars.length), q < j + 1 → x.t.vars[q] ≠ v := fun q h hq => by
              rcases Nat.lt_or_ge q j with h' | h'
              · exact Hnj.out q h h'
              · have : q = j := by omega
                subst this
                exact hv
            have Hnj2 := Lib.hid hnj2
            clear hnj2 Hnj hv
            go_wp2_with fail
            go_roundg (nx - (j + 1))
            case measure => omega
            case rel => exact ⟨j + 1, by omega, rfl, by go_num, Hnj2.out, rfl⟩
        · have d1 : decide (j < nx) = false := by simpa using hjn
          have hno2 : ∀ j (h : j < xs.length), j < k + 1 → v ∉ xs[j].t.vars := fun q h hq => by
            rcases Nat.lt_or_ge q k with h' | h'
            · exact Hno.out q h h'
            · have : q = k := by omega
              subst this
              rw [Hxk.out]
              intro hin
              obtain ⟨z, hz, e⟩ := List.getElem_of_mem hin
              exact Hnj.out z hz (by omega) e
          have Hno2 := Lib.hid hno2
          clear hno2 Hno Hnj
          go_wp2_with fail
          go_roundg (n - (k + 1))
          case measure => omega
          case rel => exact ⟨k + 1, by omega, rfl, by go_num, Hno2.out, rfl⟩
    · have d0 : decide (k < n) = false := by simpa using hkn
      have hre : r = false := by
        rw [← HR.out, Bool.eq_false_iff]
        intro h
        rw [List.contains_iff_mem] at h
        obtain ⟨x, hx, hv⟩ := List.mem_flatMap.1 h
        obtain ⟨j, hj, rfl⟩ := List.getElem_of_mem hx
        exact Hno.out j hj (by omega) hv
      subst hre
      clear HR Hno
      go_wp2_with fail
      go_ret
      exact ⟨rfl, rfl⟩

set_option maxRecDepth 100000 in
set_option maxHeartbeats 2000000 in
theorem refSameU_any (A : Option Addr) (n c : Nat) (xs : List UseD) (A' : Option Addr) (n' c' : Nat) (ys : List UseD) (w : World) (hx : UsesV w w.heap.size A n c xs) (hy : UsesV w w.heap.size A' n' c' ys) :
    Calls Try.prog 15 #[.slice A n c, .slice A' n' c'] w fun e w' => e = .returned (.bool (decide (xs = ys))) ∧ Below w.heap.size w w' := by
  have hxl := hx.len
  have hyl := hy.len
  have n63 : n ≤ 9223372036854775807 := Nat.le_trans hx.2.1 hx.2.2.1
  have Hx := Lib.hid hx
  have Hy := Lib.hid hy
  clear hx hy
  obtain ⟨r, hr⟩ : ∃ r, decide (xs = ys) = r := ⟨_, rfl⟩
  rw [hr]
  have HR := Lib.hid hr
  clear hr
  by_cases hne : n = n'
  · subst hne
    have d0 : ((n : Int) != n) = false := by simp
    go_enter Try.func15, Try.ntmps15
    go_wp2_with fail
    go_loopg [5] n (fun gh i wr => ∃ k : Nat, k ≤ n ∧ gh = n - k ∧ i = .int .i64 k ∧ (∀ j (h1 : j < xs.length) (h2 : j < ys.length), j < k → xs[j] = ys[j]) ∧ Below w.heap.size w wr)
    case atStart => exact ⟨0, Nat.zero_le _, rfl, rfl, fun j _ _ h => absurd h (by omega), Below.refl _ _⟩
    case round =>
      obtain ⟨k, hk, rfl, rfl, heq, hbel⟩ := hrel
      have Heq := Lib.hid heq
      have Hbel := Lib.hid hbel
      clear heq
      by_cases hlt : k < n
      · have d1 : decide (k < n) = true := by simpa using hlt
        obtain ⟨b, o, q, hb, hc⟩ := (Hx.out.below hbel).at_ (by omega)
        subst q
        obtain ⟨b', o', q', hb', hc'⟩ := (Hy.out.below hbel).at_ (by omega)
        subst q'
        have hk1 : k < xs.length := by omega
        have hk2 : k < ys.length := by omega
        obtain ⟨e0, Ax, nx, cx, e1, e2, e3, hrx⟩ := hc k hk1
        obtain ⟨f0, Ay, ny, cy, f1, f2, f3, hry⟩ := hc' k hk2
        have Hno : Hid (xs[k] ≠ ys[k] → r = false) := Lib.hid fun h => by
          rw [← HR.out, decide_eq_false_iff_not]
          intro e
          exact h (by subst e; rfl)
        have Hyes : Hid (xs[k] = ys[k] → ∀ j (h1 : j < xs.length) (h2 : j < ys.length), j < k + 1 → xs[j] = ys[j]) := Lib.hid fun h j h1 h2 hj => by
          rcases Nat.lt_or_ge j k with h' | h'
          · exact Heq.out j h1 h2 h'
          · have : j = k := by omega
            subst this
            exact h
        obtain ⟨x, hxk⟩ : ∃ x, xs[k] = x := ⟨_, rfl⟩
        obtain ⟨y, hyk⟩ : ∃ y, ys[k] = y := ⟨_, rfl⟩
        rw [hxk] at e0 e1 e2 hrx
        rw [hyk] at f0 f1 f2 hry
        rw [hxk, hyk] at Hno Hyes
        replace e2 : wr.cell? ⟨b, o + k * 4 + 2, none⟩ = some (.int .u8 x.t.c) := e2
        replace e3 : wr.cell? ⟨b, o + k * 4 + 3, none⟩ = some (.slice Ax nx cx) := e3
        replace f2 : wr.cell? ⟨b', o' + k * 4 + 2, none⟩ = some (.int .u8 y.t.c) := f2
        replace f3 : wr.cell? ⟨b', o' + k * 4 + 3, none⟩ = some (.slice Ay ny cy) := f3
        have k1 : (0 : Int) ≤ (k : Int) := by omega
        have k2 : (k : Int) < n := by omega
        have Hrx := Lib.hid (hrx.more hbel.size)
        have Hry := Lib.hid (hry.more hbel.size)
        clear hc hc' hrx hry hxk hyk hbel Heq
        obtain ⟨xv, ⟨xn, xc, xs'⟩⟩ := x
        obtain ⟨yv, ⟨yn, yc, ys'⟩⟩ := y
        dsimp only at e0 e1 e2 f0 f1 f2 Hrx Hry
        go_wp2_with fail
        have ke0 := fun d os => cell_regrown e0 d os
        have kf0 := fun d os => cell_regrown f0 d os
        have ke1 := fun d os => cell_regrown e1 d os
        have kf1 := fun d os => cell_regrown f1 d os
        have ke2 := fun d os => cell_regrown e2 d os
        have kf2 := fun d os => cell_regrown f2 d os
        have ke3 := fun d os => cell_regrown e3 d os
        have kf3 := fun d os => cell_regrown f3 d os
        clear e0 e1 e2 e3 f0 f1 f2 f3
        have hq : ∀ d os, Calls Try.prog 25 #[.agg #[.bool xn, .int .u8 xc, .slice Ax nx cx], .agg #[.bool yn, .int .u8 yc, .slice Ay ny cy]] («Sort».grow (redrawn wr d) os) (fun e w' => e = .returned (.bool (sameB ⟨xn, xc, xs'⟩ ⟨yn, yc, ys'⟩)) ∧ Below («Sort».grow (redrawn wr d) os).heap.size («Sort».grow (redrawn wr d) os) w') := fun d os =>
          refSame_any _ _ ⟨xn, xc, xs'⟩ ⟨yn, yc, ys'⟩ _ wr.heap.size wr.heap.size ⟨Ax, nx, cx, rfl, Hrx.out.below (below_regrown wr d os)⟩ ⟨Ay, ny, cy, rfl, Hry.out.below (below_regrown wr d os)⟩ (below_regrown wr d os).size (below_regrown wr d os).size
        replace hq := Lib.hid hq
        by_cases hv : xv = yv
        · subst hv
          have d2 : (xv != xv) = false := by simp
          cases hs : sameB ⟨xn, xc, xs'⟩ ⟨yn, yc, ys'⟩ with
          | true =>
            rw [hs] at hq
            have hxy := (sameB_iff _ _).1 hs
            have Hst := Lib.hid (Hyes.out (by rw [hxy]))
            clear hs hxy Hyes Hno
            refine wp_region_quiet_below (by kernel_rfl) (by kernel_rfl) ?_
            repeat (go_big_quiet_step ((first | (go_at_call 25; exact Calls.regrown_of (hq.out _ _)))))
            refine wpQuiet_nil ?_
            intro _ hw'
            obtain ⟨⟨dq, osq⟩, hw''⟩ := hw'
            subst hw''
            have Hb2 := Lib.hid (Hbel.out.trans ((below_regrown wr dq osq).mono Hbel.out.size))
            clear ke0 ke1 ke2 ke3 kf0 kf1 kf2 kf3 hq
            go_wp2_with fail
            go_roundg (n - (k + 1))
            case measure => omega
            case rel => exact ⟨k + 1, by omega, rfl, by go_num, Hst.out, Hb2.out⟩
          | false =>
            rw [hs] at hq
            have hre : r = false := Hno.out (fun e => by
              injection e with _ e
              rw [e, (sameB_iff _ _).2 rfl] at hs
              cases hs)
            subst hre
            clear hs Hyes Hno HR
            refine wp_region_quiet_below (by kernel_rfl) (by kernel_rfl) ?_
            repeat (go_big_quiet_step ((first | (go_at_call 25; exact Calls.regrown_of (hq.out _ _)))))
            refine wpQuiet_nil ?_
            intro _ hw'
            obtain ⟨⟨dq, osq⟩, hw''⟩ := hw'
            subst hw''
            have Hb2 := Lib.hid (Hbel.out.trans ((below_regrown wr dq osq).mono Hbel.out.size))
            clear ke0 ke1 ke2 ke3 kf0 kf1 kf2 kf3 hq
            go_wp2_with fail
            go_ret
            exact ⟨rfl, Hb2.out⟩
        · have d2 : (xv != yv) = true := by simp [hv]
          have hre : r = false := Hno.out (fun e => hv (by injection e))
          subst hre
          clear Hyes Hno HR hv
          refine wp_region_quiet_below (by kernel_rfl) (by kernel_rfl) ?_
          repeat (go_big_quiet_step ((first | (go_at_call 25; exact Calls.regrown_of (hq.out _ _)))))
          refine wpQuiet_nil ?_
          intro _ hw'
          obtain ⟨⟨dq, osq⟩, hw''⟩ := hw'
          subst hw''
          have Hb2 := Lib.hid (Hbel.out.trans ((below_regrown wr dq osq).mono Hbel.out.size))
          clear ke0 ke1 ke2 ke3 kf0 kf1 kf2 kf3 hq
          go_wp2_with fail
          go_ret
          exact ⟨rfl, Hb2.out⟩
      · have d1 : decide (k < n) = false := by simpa using hlt
        have hre : r = true := by
          rw [← HR.out, decide_eq_true_iff]
          exact List.ext_getElem (by omega) fun j h1 h2 => Heq.out j h1 h2 (by omega)
        subst hre
        clear Heq hbel HR
        go_wp2_with fail
        go_ret
        exact ⟨rfl, Hbel.out⟩
  · have d0 : ((n : Int) != n') = true := by simp; omega
    have hre : r = false := by
      rw [← HR.out, decide_eq_false_iff_not]
      intro e
      rw [e] at hxl
      omega
    subst hre
    clear HR
    go_enter Try.func15, Try.ntmps15
    go_wp2_with fail
    go_ret
    exact ⟨rfl, Below.refl _ _⟩

end Go.Proofs.Ytimlbpjdgnapoaa

/- usufructref17.May. -/
namespace Go.Proofs.Ytimlbpjdgnapoaa
set_option linter.unusedVariables false
set_option linter.unusedSimpArgs false
open Go.RowKit

theorem mayFrom_snoc (x : UseD) : ∀ (l : List UseD) (p : Int), mayFrom p (l ++ [x]) = (mayFrom p l && mayS ((l.getLast?.map (·.v)).getD p) x)
  | [], p => by simp [mayFrom]
  | y :: l, p => by
    rw [List.cons_append]
    unfold mayFrom
    rw [mayFrom_snoc x l y.v, Bool.and_assoc]
    congr 3
    cases l with
    | nil => rfl
    | cons z l => rw [List.getLast?_cons_cons]; cases h : (z :: l).getLast? with
      | none => simp at h
      | some u => rfl
theorem mayU_zero (xs : List UseD) (h : 0 < xs.length) : mayU (xs.take 1) = (mayU (xs.take 0) && mayS (-1) xs[0]) := by
  have : xs.take 1 = xs.take 0 ++ [xs[0]] := List.take_succ_eq_append_getElem h
  unfold mayU
  rw [this, mayFrom_snoc]
  rfl
theorem mayU_succ (xs : List UseD) (k : Nat) (h : k + 1 < xs.length) : mayU (xs.take (k + 1 + 1)) = (mayU (xs.take (k + 1)) && mayS xs[k].v xs[k + 1]) := by
  have : xs.take (k + 1 + 1) = xs.take (k + 1) ++ [xs[k + 1]] := List.take_succ_eq_append_getElem h
  unfold mayU
  rw [this, mayFrom_snoc]
  congr 2
  rw [List.take_succ_eq_append_getElem (show k < xs.length by omega), List.getLast?_append]
  rfl

set_option maxRecDepth 100000 in
set_option maxHeartbeats 4000000 in
theorem refMayU_any (A : Option Addr) (n c : Nat) (xs : List UseD) (w : World) (hx : UsesV w w.heap.size A n c xs) :
    Calls Try.prog 12 #[.slice A n c] w fun e w' => e = .returned (.bool (mayU xs)) ∧ Below w.heap.size w w' := by
  have hxl := hx.len
  have n63 : n ≤ 9223372036854775807 := Nat.le_trans hx.2.1 hx.2.2.1
  have Hx := Lib.hid hx
  clear hx
  go_enter Try.func12, Try.ntmps12
  go_wp2_with fail
  go_loopg [3, 4] n (fun gh ok i wr => ∃ (k : Nat) (r : Bool), k ≤ n ∧ gh = n - k ∧ i = .int .i64 k ∧ ok = .bool r ∧ r = mayU (xs.take k) ∧ Below w.heap.size w wr)
  case atStart => exact ⟨0, true, Nat.zero_le _, rfl, rfl, rfl, rfl, Below.refl _ _⟩
  case round =>
    obtain ⟨k, r, hk, rfl, rfl, rfl, hr, hbel⟩ := hrel
    have Hbel := Lib.hid hbel
    by_cases hkn : k < n
    · have d0 : decide (k < n) = true := by simpa using hkn
      have hk' : k < xs.length := by omega
      obtain ⟨b, o, q, hb, hc⟩ := (Hx.out.below hbel).at_ (by omega)
      subst q
      obtain ⟨e0, Ax, nx, cx, e1, e2, e3, hrx⟩ := hc k hk'
      have hprev : ∀ k', k = k' + 1 → ∃ q : Int, wr.cell? ⟨b, o + k' * 4, none⟩ = some (.int .i64 q) ∧ ∀ h : k' < xs.length, xs[k'].v = q := fun k' e => by
        have hk2 : k' < xs.length := by omega
        exact ⟨_, (hc k' hk2).1, fun _ => rfl⟩
      obtain ⟨x, hxk⟩ : ∃ x, xs[k] = x := ⟨_, rfl⟩
      rw [hxk] at e0 e1 e2 hrx
      obtain ⟨xv, ⟨nv, tc, vs⟩⟩ := x
      dsimp only at e0 e1 e2 hrx
      replace e2 : wr.cell? ⟨b, o + k * 4 + 2, none⟩ = some (.int .u8 tc) := e2
      replace e3 : wr.cell? ⟨b, o + k * 4 + 3, none⟩ = some (.slice Ax nx cx) := e3
      have Hq : Hid (TermV wr wr.heap.size (.agg #[.bool nv, .int .u8 tc, .slice Ax nx cx]) ⟨nv, tc, vs⟩) := Lib.hid ⟨Ax, nx, cx, rfl, hrx.more hbel.size⟩
      have hq : ∀ d os, Calls Try.prog 29 #[.agg #[.bool nv, .int .u8 tc, .slice Ax nx cx]] («Sort».grow (redrawn wr d) os) (fun e w' => e = .returned (.bool (mayB ⟨nv, tc, vs⟩)) ∧ Below («Sort».grow (redrawn wr d) os).heap.size («Sort».grow (redrawn wr d) os) w') := fun d os =>
        refMay_t _ ⟨nv, tc, vs⟩ _ _ ((Hq.out.below (below_regrown wr d os)).more (below_regrown wr d os).size) (Nat.le_refl _)
      replace hq := Lib.hid hq
      have hsm : ∀ p, mayS p ⟨xv, ⟨nv, tc, vs⟩⟩ = (decide (0 ≤ xv) && decide (xv < 1048576) && decide (p < xv) && !nv && mayB ⟨nv, tc, vs⟩) := fun _ => rfl
      have i1 : (0 : Int) ≤ (k : Int) := by omega
      have i2 : (k : Int) < n := by omega
      have hst : ∃ p, mayU (xs.take (k + 1)) = (mayU (xs.take k) && mayS p ⟨xv, ⟨nv, tc, vs⟩⟩) ∧ (k = 0 → p = -1) ∧ ∀ k' (h : k' < xs.length), k = k' + 1 → p = xs[k'].v := by
        cases k with
        | zero => exact ⟨-1, by rw [← hxk]; exact mayU_zero xs hk', fun _ => rfl, fun k' _ h => absurd h (by omega)⟩
        | succ k' => exact ⟨xs[k'].v, by rw [← hxk]; exact mayU_succ xs k' hk', fun h => absurd h (by omega), fun k2 _ h => (by obtain rfl : k2 = k' := (by omega); rfl)⟩
      obtain ⟨p, hst, hp0, hp1⟩ := hst
      rw [← hr] at hst
      have Hst := Lib.hid hst
      have Hp0 := Lib.hid hp0
      have Hp1 := Lib.hid hp1
      have Hprev := Lib.hid hprev
      clear hc hrx hxk hst hp0 hp1 hprev hr hbel Hq
      have ke1 := fun d os => cell_regrown e1 d os
      have ke2 := fun d os => cell_regrown e2 d os
      have ke3 := fun d os => cell_regrown e3 d os
      cases r with
      | false =>
        have Hfin : Hid (false = mayU (xs.take (k + 1))) := Lib.hid (by rw [Hst.out]; rfl)
        go_wp2_with fail
        have ke0 := fun d os => cell_regrown e0 d os
        clear e0 e1 e2 e3 hsm Hst
        refine wp_region_quiet_below (by kernel_rfl) (by kernel_rfl) ?_
        repeat (go_big_quiet_step ((first | (go_at_call 29; exact Calls.regrown_of (hq.out _ _)))))
        refine wpQuiet_nil ?_
        intro _ hw'
        obtain ⟨⟨dq, osq⟩, hw''⟩ := hw'
        subst hw''
        have Hb2 := Lib.hid (Hbel.out.trans ((below_regrown wr dq osq).mono Hbel.out.size))
        clear ke0 ke1 ke2 ke3 hq
        go_wp2_with fail
        go_roundg (n - (k + 1))
        case measure => omega
        case rel => exact ⟨k + 1, false, by omega, rfl, by go_num, rfl, Hfin.out, Hb2.out⟩
      | true =>
        cases k with
        | zero =>
          obtain rfl : p = -1 := Hp0.out rfl
          simp only [Nat.zero_mul, Nat.add_zero] at e0 e1 e2 e3 ke1 ke2 ke3
          go_wp2_with fail
          have ke0 := fun d os => cell_regrown e0 d os
          clear e0 e1 e2 e3
          by_cases hv0 : 0 ≤ xv
          · have f1 : decide (xv ≥ 0) = true := by simp; omega
            by_cases hv1 : xv < 1048576
            · have f2 : decide (xv < 1048576) = true := by simp; omega
              have hpx : -1 < xv := by omega
              cases nv with
              | true =>
                have Hfin : Hid (false = mayU (xs.take (0 + 1))) := Lib.hid (by rw [Hst.out, hsm]; simp)
                clear hsm
                refine wp_region_quiet_below (by kernel_rfl) (by kernel_rfl) ?_
                repeat (go_big_quiet_step ((first | (go_at_call 29; exact Calls.regrown_of (hq.out _ _)))))
                refine wpQuiet_nil ?_
                intro _ hw'
                obtain ⟨⟨dq, osq⟩, hw''⟩ := hw'
                subst hw''
                have Hb2 := Lib.hid (Hbel.out.trans ((below_regrown wr dq osq).mono Hbel.out.size))
                clear ke0 ke1 ke2 ke3 hq
                go_wp2_with fail
                go_roundg (n - (0 + 1))
                case measure => omega
                case rel => exact ⟨0 + 1, false, by omega, rfl, by go_num, rfl, Hfin.out, Hb2.out⟩
              | false =>
                cases hm : mayB ⟨false, tc, vs⟩ with
                | false =>
                  have Hfin : Hid (false = mayU (xs.take (0 + 1))) := Lib.hid (by rw [Hst.out, hsm, hm]; simp)
                  rw [hm] at hq
                  clear hsm hm
                  refine wp_region_quiet_below (by kernel_rfl) (by kernel_rfl) ?_
                  repeat (go_big_quiet_step ((first | (go_at_call 29; exact Calls.regrown_of (hq.out _ _)))))
                  refine wpQuiet_nil ?_
                  intro _ hw'
                  obtain ⟨⟨dq, osq⟩, hw''⟩ := hw'
                  subst hw''
                  have Hb2 := Lib.hid (Hbel.out.trans ((below_regrown wr dq osq).mono Hbel.out.size))
                  clear ke0 ke1 ke2 ke3 hq
                  go_wp2_with fail
                  go_roundg (n - (0 + 1))
                  case measure => omega
                  case rel => exact ⟨0 + 1, false, by omega, rfl, by go_num, rfl, Hfin.out, Hb2.out⟩
                | true =>
                  have Hfin : Hid (true = mayU (xs.take (0 + 1))) := Lib.hid (by rw [Hst.out, hsm, hm]; simp [hv0, hv1, hpx])
                  rw [hm] at hq
                  clear hsm hm
                  refine wp_region_quiet_below (by kernel_rfl) (by kernel_rfl) ?_
                  repeat (go_big_quiet_step ((first | (go_at_call 29; exact Calls.regrown_of (hq.out _ _)))))
                  refine wpQuiet_nil ?_
                  intro _ hw'
                  obtain ⟨⟨dq, osq⟩, hw''⟩ := hw'
                  subst hw''
                  have Hb2 := Lib.hid (Hbel.out.trans ((below_regrown wr dq osq).mono Hbel.out.size))
                  clear ke0 ke1 ke2 ke3 hq
                  go_wp2_with fail
                  go_roundg (n - (0 + 1))
                  case measure => omega
                  case rel => exact ⟨0 + 1, true, by omega, rfl, by go_num, rfl, Hfin.out, Hb2.out⟩
            · have f2 : decide (xv < 1048576) = false := by simp; omega
              have Hfin : Hid (false = mayU (xs.take (0 + 1))) := Lib.hid (by rw [Hst.out, hsm]; simp [hv1])
              clear hsm
              refine wp_region_quiet_below (by kernel_rfl) (by kernel_rfl) ?_
              repeat (go_big_quiet_step ((first | (go_at_call 29; exact Calls.regrown_of (hq.out _ _)))))
              refine wpQuiet_nil ?_
              intro _ hw'
              obtain ⟨⟨dq, osq⟩, hw''⟩ := hw'
              subst hw''
              have Hb2 := Lib.hid (Hbel.out.trans ((below_regrown wr dq osq).mono Hbel.out.size))
              clear ke0 ke1 ke2 ke3 hq
              go_wp2_with fail
              go_roundg (n - (0 + 1))
              case measure => omega
              case rel => exact ⟨0 + 1, false, by omega, rfl, by go_num, rfl, Hfin.out, Hb2.out⟩
          · have f1 : decide (xv ≥ 0) = false := by simp; omega
            have Hfin : Hid (false = mayU (xs.take (0 + 1))) := Lib.hid (by rw [Hst.out, hsm]; simp [hv0])
            clear hsm
            refine wp_region_quiet_below (by kernel_rfl) (by kernel_rfl) ?_
            repeat (go_big_quiet_step ((first | (go_at_call 29; exact Calls.regrown_of (hq.out _ _)))))
            refine wpQuiet_nil ?_
            intro _ hw'
            obtain ⟨⟨dq, osq⟩, hw''⟩ := hw'
            subst hw''
            have Hb2 := Lib.hid (Hbel.out.trans ((below_regrown wr dq osq).mono Hbel.out.size))
            clear ke0 ke1 ke2 ke3 hq
            go_wp2_with fail
            go_roundg (n - (0 + 1))
            case measure => omega
            case rel => exact ⟨0 + 1, false, by omega, rfl, by go_num, rfl, Hfin.out, Hb2.out⟩
        | succ k' =>
          obtain ⟨q, hq0, hpq⟩ := Hprev.out k' rfl
          have hpe : p = q := (Hp1.out k' (by omega) rfl).trans (hpq (by omega))
          subst hpe
          have g1 : ((k' : Int) + 1 == 0) = false := by simp; omega
          have i4 : (0 : Int) ≤ (k' : Int) + 1 := by omega
          have i5 : (k' : Int) + 1 < n := by omega
          have i6 : (0 : Int) ≤ (k' : Int) := by omega
          have i7 : (k' : Int) < n := by omega
          go_wp2_with fail
          have ke0 := fun d os => cell_regrown e0 d os
          have kp0 := fun d os => cell_regrown hq0 d os
          clear e0 e1 e2 e3 hq0 hpq
          by_cases hv0 : 0 ≤ xv
          · have f1 : decide (xv ≥ 0) = true := by simp; omega
            by_cases hv1 : xv < 1048576
            · have f2 : decide (xv < 1048576) = true := by simp; omega
              by_cases hpx : p < xv
              · have f3 : decide (xv > p) = true := by simpa using hpx
                cases nv with
                | true =>
                  have Hfin : Hid (false = mayU (xs.take ((k' + 1) + 1))) := Lib.hid (by rw [Hst.out, hsm]; simp)
                  clear hsm
                  refine wp_region_quiet_below (by kernel_rfl) (by kernel_rfl) ?_
                  repeat (go_big_quiet_step ((first | (go_at_call 29; exact Calls.regrown_of (hq.out _ _)))))
                  refine wpQuiet_nil ?_
                  intro _ hw'
                  obtain ⟨⟨dq, osq⟩, hw''⟩ := hw'
                  subst hw''
                  have Hb2 := Lib.hid (Hbel.out.trans ((below_regrown wr dq osq).mono Hbel.out.size))
                  clear ke0 ke1 ke2 ke3 hq
                  go_wp2_with fail
                  go_roundg (n - ((k' + 1) + 1))
                  case measure => omega
                  case rel => exact ⟨(k' + 1) + 1, false, by omega, rfl, by go_num, rfl, Hfin.out, Hb2.out⟩
                | false =>
                  cases hm : mayB ⟨false, tc, vs⟩ with
                  | false =>
                    have Hfin : Hid (false = mayU (xs.take ((k' + 1) + 1))) := Lib.hid (by rw [Hst.out, hsm, hm]; simp)
                    rw [hm] at hq
                    clear hsm hm
                    refine wp_region_quiet_below (by kernel_rfl) (by kernel_rfl) ?_
                    repeat (go_big_quiet_step ((first | (go_at_call 29; exact Calls.regrown_of (hq.out _ _)))))
                    refine wpQuiet_nil ?_
                    intro _ hw'
                    obtain ⟨⟨dq, osq⟩, hw''⟩ := hw'
                    subst hw''
                    have Hb2 := Lib.hid (Hbel.out.trans ((below_regrown wr dq osq).mono Hbel.out.size))
                    clear ke0 ke1 ke2 ke3 hq
                    go_wp2_with fail
                    go_roundg (n - ((k' + 1) + 1))
                    case measure => omega
                    case rel => exact ⟨(k' + 1) + 1, false, by omega, rfl, by go_num, rfl, Hfin.out, Hb2.out⟩
                  | true =>
                    have Hfin : Hid (true = mayU (xs.take ((k' + 1) + 1))) := Lib.hid (by rw [Hst.out, hsm, hm]; simp [hv0, hv1, hpx])
                    rw [hm] at hq
                    clear hsm hm
                    refine wp_region_quiet_below (by kernel_rfl) (by kernel_rfl) ?_
                    repeat (go_big_quiet_step ((first | (go_at_call 29; exact Calls.regrown_of (hq.out _ _)))))
                    refine wpQuiet_nil ?_
                    intro _ hw'
                    obtain ⟨⟨dq, osq⟩, hw''⟩ := hw'
                    subst hw''
                    have Hb2 := Lib.hid (Hbel.out.trans ((below_regrown wr dq osq).mono Hbel.out.size))
                    clear ke0 ke1 ke2 ke3 hq
                    go_wp2_with fail
                    go_roundg (n - ((k' + 1) + 1))
                    case measure => omega
                    case rel => exact ⟨(k' + 1) + 1, true, by omega, rfl, by go_num, rfl, Hfin.out, Hb2.out⟩
              · have f3 : decide (xv > p) = false := by simpa using hpx
                have Hfin : Hid (false = mayU (xs.take (k' + 1 + 1))) := Lib.hid (by rw [Hst.out, hsm]; simp [hpx])
                clear hsm
                refine wp_region_quiet_below (by kernel_rfl) (by kernel_rfl) ?_
                repeat (go_big_quiet_step ((first | (go_at_call 29; exact Calls.regrown_of (hq.out _ _)))))
                refine wpQuiet_nil ?_
                intro _ hw'
                obtain ⟨⟨dq, osq⟩, hw''⟩ := hw'
                subst hw''
                have Hb2 := Lib.hid (Hbel.out.trans ((below_regrown wr dq osq).mono Hbel.out.size))
                clear ke0 ke1 ke2 ke3 hq
                go_wp2_with fail
                go_roundg (n - ((k' + 1) + 1))
                case measure => omega
                case rel => exact ⟨(k' + 1) + 1, false, by omega, rfl, by go_num, rfl, Hfin.out, Hb2.out⟩
            · have f2 : decide (xv < 1048576) = false := by simp; omega
              have Hfin : Hid (false = mayU (xs.take (k' + 1 + 1))) := Lib.hid (by rw [Hst.out, hsm]; simp [hv1])
              clear hsm
              refine wp_region_quiet_below (by kernel_rfl) (by kernel_rfl) ?_
              repeat (go_big_quiet_step ((first | (go_at_call 29; exact Calls.regrown_of (hq.out _ _)))))
              refine wpQuiet_nil ?_
              intro _ hw'
              obtain ⟨⟨dq, osq⟩, hw''⟩ := hw'
              subst hw''
              have Hb2 := Lib.hid (Hbel.out.trans ((below_regrown wr dq osq).mono Hbel.out.size))
              clear ke0 ke1 ke2 ke3 hq
              go_wp2_with fail
              go_roundg (n - ((k' + 1) + 1))
              case measure => omega
              case rel => exact ⟨(k' + 1) + 1, false, by omega, rfl, by go_num, rfl, Hfin.out, Hb2.out⟩
          · have f1 : decide (xv ≥ 0) = false := by simp; omega
            have Hfin : Hid (false = mayU (xs.take (k' + 1 + 1))) := Lib.hid (by rw [Hst.out, hsm]; simp [hv0])
            clear hsm
            refine wp_region_quiet_below (by kernel_rfl) (by kernel_rfl) ?_
            repeat (go_big_quiet_step ((first | (go_at_call 29; exact Calls.regrown_of (hq.out _ _)))))
            refine wpQuiet_nil ?_
            intro _ hw'
            obtain ⟨⟨dq, osq⟩, hw''⟩ := hw'
            subst hw''
            have Hb2 := Lib.hid (Hbel.out.trans ((below_regrown wr dq osq).mono Hbel.out.size))
            clear ke0 ke1 ke2 ke3 hq
            go_wp2_with fail
            go_roundg (n - ((k' + 1) + 1))
            case measure => omega
            case rel => exact ⟨(k' + 1) + 1, false, by omega, rfl, by go_num, rfl, Hfin.out, Hb2.out⟩
    · have d0 : decide (k < n) = false := by simpa using hkn
      rw [List.take_of_length_le (by omega)] at hr
      have HR := Lib.hid hr
      clear hr
      go_wp2_with fail
      go_ret
      exact ⟨ret_bool HR.out, Hbel.out⟩

end Go.Proofs.Ytimlbpjdgnapoaa

