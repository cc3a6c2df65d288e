/- uses.Same, Times. -/
import Derived.Test.YtimlbpjdgnapoaaUsesI
import Derived.Test.YtimlbpjdgnapoaaPlU
namespace Go.Proofs.Ytimlbpjdgnapoaa
set_option linter.unusedVariables false
set_option linter.unusedSimpArgs false
open Go.RowKit

theorem same1_any (x y : UseD) (A : Option Addr) (n c : Nat) (A' : Option Addr) (n' c' : Nat) (w : World) (h1 : RdI .i64 w w.heap.size A n c x.t.vars) (h2 : RdI .i64 w w.heap.size A' n' c' y.t.vars) (r : Bool) (hr : decide (x = y) = r) :
    Calls Try.prog 55 #[.agg #[.int .i64 x.v, .bool x.t.never, .int .u8 x.t.c, .slice A n c], .agg #[.int .i64 y.v, .bool y.t.never, .int .u8 y.t.c, .slice A' n' c']] w fun e w' => e = .returned (.bool r) ∧ Below w.heap.size w w' := by
  obtain ⟨xv, xn, xc, xs⟩ := x
  obtain ⟨yv, yn, yc, ys⟩ := y
  dsimp only at h1 h2 ⊢
  have hbel : Below w.heap.size w ((w.alloc (Obj.cells #[.int .i64 xv, .bool xn, .int .u8 xc, .slice A n c] 41)).alloc (Obj.cells #[.int .i64 yv, .bool yn, .int .u8 yc, .slice A' n' c'] 41)) := ((Below.refl _ _).alloc (Nat.le_refl _) _).alloc (by simp) _
  have hq := same_any (.agg #[.bool xn, .int .u8 xc, .slice A n c]) (.agg #[.bool yn, .int .u8 yc, .slice A' n' c']) ⟨xn, xc, xs⟩ ⟨yn, yc, ys⟩ _ w.heap.size w.heap.size ⟨A, n, c, rfl, h1.below hbel⟩ ⟨A', n', c', rfl, h2.below hbel⟩ hbel.size hbel.size
  have hsb : sameB ⟨xn, xc, xs⟩ ⟨yn, yc, ys⟩ = decide ((⟨xn, xc, xs⟩ : TermD) = ⟨yn, yc, ys⟩) := by
    rw [Bool.eq_iff_iff, sameB_iff, decide_eq_true_iff]
  rw [hsb] at hq
  have Hq := Lib.hid hq
  have Hb := Lib.hid hbel
  clear hq hsb hbel h1 h2
  by_cases e1 : xv = yv
  · subst e1
    have t1 : (xv == xv) = true := by simp
    have H : Hid (decide ((⟨xn, xc, xs⟩ : TermD) = ⟨yn, yc, ys⟩) = r) := by show _ = _; rw [← hr]; simp
    rw [H.out] at Hq
    clear hr H
    go_enter Try.func55, Try.ntmps55
    go_wp2_with fail
    refine Hq.out.mono ?_; rintro e w1 ⟨rfl, hb1⟩
    go_wp2_with fail
    go_ret
    exact ⟨rfl, Hb.out.trans (hb1.mono Hb.out.size)⟩
  · have t1 : (xv == yv) = false := by simp [e1]
    have H : Hid (false = r) := by show _ = _; rw [← hr]; simp [e1]
    clear hr Hq e1
    go_enter Try.func55, Try.ntmps55
    go_wp2_with fail
    go_ret
    exact ⟨ret_bool H.out, Hb.out⟩

set_option maxHeartbeats 1000000 in
theorem sameU_any (A : Option Addr) (n c : Nat) (xs : List UseD) (A' : Option Addr) (n' c' : Nat) (ys : List UseD) (w : World) (hx : UsesV w w.heap.size A n c xs) (hy : UsesV w w.heap.size A' n' c' ys) :
    Calls Try.prog 18 #[.slice A n c, .slice A' n' c'] w fun e w' => e = .returned (.bool (decide (xs = ys))) ∧ Below w.heap.size w w' := by
  have hk : Calls Try.prog 54 #[.slice A n c, .slice A' n' c', .func (.func 55) #[] #[]] w fun e w' => e = .returned (.bool (decide (xs = ys))) ∧ Below w.heap.size w w' := by
    have hxl := hx.len
    have hyl := hy.len
    have n63 : n ≤ 9223372036854775807 := Nat.le_trans hx.2.1 hx.2.2.1
    have Hx := Lib.hid hx
    have Hy := Lib.hid hy
    clear hx hy
    by_cases hne : n = n'
    · subst hne
      have d0 : ((n : Int) != n) = false := by simp
      go_enter Try.func54, Try.ntmps54
      go_wp2_with fail
      go_loopg [17] n (fun gh i wr => ∃ k : Nat, k ≤ n ∧ gh = n - k ∧ i = .int .i64 k ∧ (∀ j (h1 : j < xs.length) (h2 : j < ys.length), j < k → xs[j] = ys[j]) ∧ Below w.heap.size w wr)
      case atStart => exact ⟨0, Nat.zero_le _, rfl, rfl, fun j _ _ h => absurd h (by omega), Below.refl _ _⟩
      case round =>
        obtain ⟨k, hk, rfl, rfl, heq, hbel⟩ := hrel
        have Heq := Lib.hid heq
        have Hbel := Lib.hid hbel
        clear heq
        by_cases hlt : k < n
        · obtain ⟨b, o, q, hb, hc⟩ := (Hx.out.below hbel).at_ (by omega)
          subst q
          obtain ⟨b', o', q', hb', hc'⟩ := (Hy.out.below hbel).at_ (by omega)
          subst q'
          have hk1 : k < xs.length := by omega
          have hk2 : k < ys.length := by omega
          obtain ⟨e0, Ax, nx, cx, e1, e2, e3, hrx⟩ := hc k hk1
          obtain ⟨f0, Ay, ny, cy, f1, f2, f3, hry⟩ := hc' k hk2
          obtain ⟨x, hxk⟩ : ∃ x, xs[k] = x := ⟨_, rfl⟩
          obtain ⟨y, hyk⟩ : ∃ y, ys[k] = y := ⟨_, rfl⟩
          rw [hxk] at e0 e1 e2 hrx
          rw [hyk] at f0 f1 f2 hry
          replace e2 : wr.cell? ⟨b, o + k * 4 + 2, none⟩ = some (.int .u8 x.t.c) := e2
          replace e3 : wr.cell? ⟨b, o + k * 4 + 3, none⟩ = some (.slice Ax nx cx) := e3
          replace f2 : wr.cell? ⟨b', o' + k * 4 + 2, none⟩ = some (.int .u8 y.t.c) := f2
          replace f3 : wr.cell? ⟨b', o' + k * 4 + 3, none⟩ = some (.slice Ay ny cy) := f3
          have hbx1 := below_box (w := wr) (Obj.cells #[.int .i64 x.v, .bool x.t.never, .int .u8 x.t.c, .slice Ax nx cx] 41)
          have g0 : (wr.alloc (Obj.cells #[.int .i64 x.v, .bool x.t.never, .int .u8 x.t.c, .slice Ax nx cx] 41)).cell? ⟨b', o' + k * 4, none⟩ = some (.int .i64 y.v) := (hbx1.cell (p := ⟨b', o' + k * 4, none⟩) (block_lt_of_cell f0)).trans f0
          have g1 : (wr.alloc (Obj.cells #[.int .i64 x.v, .bool x.t.never, .int .u8 x.t.c, .slice Ax nx cx] 41)).cell? ⟨b', o' + k * 4 + 1, none⟩ = some (.bool y.t.never) := (hbx1.cell (p := ⟨b', o' + k * 4 + 1, none⟩) (block_lt_of_cell f1)).trans f1
          have g2 : (wr.alloc (Obj.cells #[.int .i64 x.v, .bool x.t.never, .int .u8 x.t.c, .slice Ax nx cx] 41)).cell? ⟨b', o' + k * 4 + 2, none⟩ = some (.int .u8 y.t.c) := (hbx1.cell (p := ⟨b', o' + k * 4 + 2, none⟩) (block_lt_of_cell f2)).trans f2
          have g3 : (wr.alloc (Obj.cells #[.int .i64 x.v, .bool x.t.never, .int .u8 x.t.c, .slice Ax nx cx] 41)).cell? ⟨b', o' + k * 4 + 3, none⟩ = some (.slice Ay ny cy) := (hbx1.cell (p := ⟨b', o' + k * 4 + 3, none⟩) (block_lt_of_cell f3)).trans f3
          clear f0 f1 f2 f3 hbx1
          have k1 : (0 : Int) ≤ (k : Int) := by omega
          have k2 : (k : Int) < n := by omega
          have hb2 : Below wr.heap.size wr ((wr.alloc (Obj.cells #[.int .i64 x.v, .bool x.t.never, .int .u8 x.t.c, .slice Ax nx cx] 41)).alloc (Obj.cells #[.int .i64 y.v, .bool y.t.never, .int .u8 y.t.c, .slice Ay ny cy] 41)) := ((Below.refl _ _).alloc (Nat.le_refl _) _).alloc (by simp) _
          have hb2' := hbel.trans (hb2.mono hbel.size)
          have hs := same1_any x y Ax nx cx Ay ny cy _ (((hrx.more hbel.size).below hb2).more hb2.size) (((hry.more hbel.size).below hb2).more hb2.size) _ rfl
          have Hb2 := Lib.hid hb2'
          have Hxy : Hid ((∀ j (h1 : j < xs.length) (h2 : j < ys.length), j < k + 1 → xs[j] = ys[j]) ↔ x = y) := Lib.hid (by
            constructor
            · intro h; rw [← hxk, ← hyk]; exact h k hk1 hk2 (by omega)
            · intro h j h1 h2 hj
              rcases Nat.lt_or_ge j k with h' | h'
              · exact Heq.out j h1 h2 h'
              · have : j = k := by omega
                subst this
                rw [hxk, hyk, h])
          have Hno : Hid (x ≠ y → xs ≠ ys) := Lib.hid (fun h e => h (by subst e; rw [← hxk, ← hyk]))
          cases hd : decide (x = y) with
          | true =>
            rw [hd] at hs
            have Hs := Lib.hid hs
            have Hd := Lib.hid (of_decide_eq_true hd)
            clear hs hd hc hc' hrx hry hxk hyk hb2 hb2' hbel Heq Hno
            go_wp2_with fail
            refine Hs.out.mono ?_; rintro e w1 ⟨rfl, hb1⟩
            go_wp2_with fail
            go_roundg (n - (k + 1))
            case measure => omega
            case rel => exact ⟨k + 1, by omega, rfl, by go_num, Hxy.out.2 Hd.out, Hb2.out.trans (hb1.mono Hb2.out.size)⟩
          | false =>
            rw [hd] at hs
            have Hs := Lib.hid hs
            have HF : Hid (false = decide (xs = ys)) := Lib.hid (by rw [eq_comm, decide_eq_false_iff_not]; exact Hno.out (of_decide_eq_false hd))
            clear hs hd hc hc' hrx hry hxk hyk hb2 hb2' hbel Heq Hno Hxy
            go_wp2_with fail
            refine Hs.out.mono ?_; rintro e w1 ⟨rfl, hb1⟩
            go_wp2_with fail
            go_ret
            exact ⟨ret_bool HF.out, Hb2.out.trans (hb1.mono Hb2.out.size)⟩
        · have HF : Hid (true = decide (xs = ys)) := Lib.hid (by
            rw [eq_comm, decide_eq_true_iff]
            exact List.ext_getElem (by omega) fun j h1 h2 => Heq.out j h1 h2 (by omega))
          clear Heq hbel
          go_wp2_with fail
          go_ret
          exact ⟨ret_bool HF.out, Hbel.out⟩
    · have d0 : ((n : Int) != n') = true := by simp; omega
      have HF : Hid (false = decide (xs = ys)) := Lib.hid (by
        rw [eq_comm, decide_eq_false_iff_not]
        intro e
        rw [e] at hxl
        omega)
      go_enter Try.func54, Try.ntmps54
      go_wp2_with fail
      go_ret
      exact ⟨ret_bool HF.out, Below.refl _ _⟩
  generalize decide (xs = ys) = r at hk ⊢
  have Hk := Lib.hid hk
  clear hk hx hy
  go_enter Try.func18, Try.ntmps18
  go_wp2_with fail
  refine Hk.out.mono ?_; rintro e w1 ⟨rfl, hb1⟩
  go_wp2_with fail
  go_ret
  exact ⟨rfl, hb1⟩

end Go.Proofs.Ytimlbpjdgnapoaa
