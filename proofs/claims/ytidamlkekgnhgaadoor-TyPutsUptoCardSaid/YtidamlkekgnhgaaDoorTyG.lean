/- Contracts: ty.Same and usufructref06.Same. -/
import Derived.Test.YtidamlkekgnhgaaDoorTyF
import Derived.Deep.RegionHeld3
namespace Go.Proofs.YtidamlkekgnhgaaDoor
set_option linter.unusedVariables false
set_option linter.unusedSimpArgs false
open Go.RowKit

/-- are two types the same? -/
def sameT : TyD → TyD → Bool
  | .mk k n v c l, b => (k == b.k) && (n == b.n) && (v == b.v) && (c == b.c) && sameL l b.l
where sameL : List TyD → List TyD → Bool
  | [], [] => true
  | x :: r, y :: s => sameT x y && sameL r s
  | [], _ :: _ => false
  | _ :: _, [] => false
theorem sameT_eq (a b : TyD) : sameT a b = ((a.k == b.k) && (a.n == b.n) && (a.v == b.v) && (a.c == b.c) && sameT.sameL a.l b.l) := by cases a; rw [sameT]; rfl
mutual
theorem sameT_iff : ∀ (a b : TyD), sameT a b = true ↔ a = b
  | .mk k n v c l, .mk k' n' v' c' l' => by
    rw [sameT]
    have := sameL_iff l l'
    simp only [TyD.k, TyD.n, TyD.v, TyD.c, TyD.l, Bool.and_eq_true, beq_iff_eq, TyD.mk.injEq, this, and_assoc]
theorem sameL_iff : ∀ (l m : List TyD), sameT.sameL l m = true ↔ l = m
  | [], [] => by simp [sameT.sameL]
  | x :: r, y :: s => by
    rw [sameT.sameL, Bool.and_eq_true, sameT_iff x y, sameL_iff r s, List.cons.injEq]
  | [], _ :: _ => by simp [sameT.sameL]
  | _ :: _, [] => by simp [sameT.sameL]
end
theorem sameL_len {l m : List TyD} (h : l.length ≠ m.length) : sameT.sameL l m = false := by
  rw [Bool.eq_false_iff]
  intro e
  exact h (by rw [(sameL_iff l m).1 e])
theorem sameL_ne {l m : List TyD} {i : Nat} (h1 : i < l.length) (h2 : i < m.length) (h : sameT l[i] m[i] = false) : sameT.sameL l m = false := by
  rw [Bool.eq_false_iff]
  intro e
  have := (sameL_iff l m).1 e
  subst this
  rw [(sameT_iff _ _).2 rfl] at h
  cases h
theorem sameL_all {l m : List TyD} (hl : l.length = m.length) (h : ∀ i (h1 : i < l.length) (h2 : i < m.length), sameT l[i] m[i] = true) : sameT.sameL l m = true :=
  (sameL_iff l m).2 (List.ext_getElem hl fun i h1 h2 => (sameT_iff _ _).1 (h i h1 h2))

/-- what a call of Same says of children -/
def SameCall (f : FuncId) (N : Nat) : Prop := ∀ (a b : TyD), nodes a ≤ N → ∀ (A : Option Addr) (m cp : Nat) (A' : Option Addr) (m' cp' : Nat) (w : World), TysV w w.heap.size A m cp a.l → TysV w w.heap.size A' m' cp' b.l →
    Calls Tryd.prog f #[.agg #[.int .u8 a.k, .int .i64 a.n, .int .i64 a.v, .int .u8 a.c, .slice A m cp], .agg #[.int .u8 b.k, .int .i64 b.n, .int .i64 b.v, .int .u8 b.c, .slice A' m' cp']] w fun e w' => e = .returned (.bool (sameT a b)) ∧ Below w.heap.size w w'

set_option maxRecDepth 100000 in
set_option maxHeartbeats 2000000 in
theorem equalT_any (N : Nat) (hs : SameCall 21 N) (xs ys : List TyD) (hN : ∀ i (h : i < xs.length), nodes xs[i] ≤ N) (A : Option Addr) (m cp : Nat) (A' : Option Addr) (m' cp' : Nat) (w : World) (hx : TysV w w.heap.size A m cp xs) (hy : TysV w w.heap.size A' m' cp' ys) (r : Bool) (hr : sameT.sameL xs ys = r) :
    Calls Tryd.prog 48 #[.slice A m cp, .slice A' m' cp', .func (.func 21) #[] #[]] w fun e w' => e = .returned (.bool r) ∧ Below w.heap.size w w' := by
  have hxl := hx.len
  have hyl := hy.len
  have m63 : m ≤ 9223372036854775807 := Nat.le_trans hx.2.1 hx.2.2.1
  have Hx := Lib.hid hx
  have Hy := Lib.hid hy
  have HR := Lib.hid hr
  have Hs := Lib.hid hs
  have HN := Lib.hid hN
  clear hx hy hr hs hN
  by_cases hne : m = m'
  · subst hne
    have d0 : ((m : Int) != m) = false := by simp
    go_enter Tryd.func48, Tryd.ntmps48
    go_wp2_with fail
    go_loopg [17] m (fun gh i wr => ∃ k : Nat, k ≤ m ∧ gh = m - k ∧ i = .int .i64 k ∧ (∀ j (h1 : j < xs.length) (h2 : j < ys.length), j < k → sameT xs[j] ys[j] = true) ∧ Below w.heap.size w wr)
    case atStart => exact ⟨0, Nat.zero_le _, rfl, rfl, fun j _ _ h => absurd h (by omega), Below.refl _ _⟩
    case round =>
      obtain ⟨k, hk, rfl, rfl, heq, hbel⟩ := hrel
      have Heq := Lib.hid heq
      clear heq
      by_cases hkm : k < m
      · have d1 : decide (k < m) = true := by simpa using hkm
        have hk1 : k < xs.length := by omega
        have hk2 : k < ys.length := by omega
        obtain ⟨b, off, rfl, hb, hc⟩ := (Hx.out.below hbel).at_ (by omega)
        obtain ⟨b', off', rfl, hb', hc'⟩ := (Hy.out.below hbel).at_ (by omega)
        obtain ⟨e0, e1, e2, e3, Ax, mx, cx, e4, hx⟩ := tyAt_iff.1 (hc k hk1)
        obtain ⟨f0, f1, f2, f3, Ay, my, cy, f4, hy⟩ := tyAt_iff.1 (hc' k hk2)
        have hn := HN.out k hk1
        obtain ⟨P, hP⟩ : ∃ P, sameT xs[k] ys[k] = P := ⟨_, rfl⟩
        have HP := Lib.hid hP
        obtain ⟨x, hxk⟩ : ∃ x, xs[k] = x := ⟨_, rfl⟩
        obtain ⟨y, hyk⟩ : ∃ y, ys[k] = y := ⟨_, rfl⟩
        rw [hxk] at e0 e1 e2 e3 hx hn hP
        rw [hyk] at f0 f1 f2 f3 hy hP
        have hbB : Below wr.heap.size wr ((wr.alloc (Obj.cells #[.int .u8 x.k, .int .i64 x.n, .int .i64 x.v, .int .u8 x.c, .slice Ax mx cx] 27)).alloc (Obj.cells #[.int .u8 y.k, .int .i64 y.n, .int .i64 y.v, .int .u8 y.c, .slice Ay my cy] 27)) := ((Below.refl _ _).alloc (Nat.le_refl _) _).alloc (by simp) _
        have hfar := below_box (w := wr) (Obj.cells #[.int .u8 x.k, .int .i64 x.n, .int .i64 x.v, .int .u8 x.c, .slice Ax mx cx] 27)
        have g0 := (hfar.cell (p := ⟨b', off' + k * 5, none⟩) (block_lt_of_cell f0)).trans f0
        have g1 := (hfar.cell (p := ⟨b', off' + k * 5 + 1, none⟩) (block_lt_of_cell f1)).trans f1
        have g2 := (hfar.cell (p := ⟨b', off' + k * 5 + 2, none⟩) (block_lt_of_cell f2)).trans f2
        have g3 := (hfar.cell (p := ⟨b', off' + k * 5 + 3, none⟩) (block_lt_of_cell f3)).trans f3
        have g4 := (hfar.cell (p := ⟨b', off' + k * 5 + 4, none⟩) (block_lt_of_cell f4)).trans f4
        have hz1 := (blk_new wr #[.int .u8 x.k, .int .i64 x.n, .int .i64 x.v, .int .u8 x.c, .slice Ax mx cx] 27).alloc (Obj.cells #[.int .u8 y.k, .int .i64 y.n, .int .i64 y.v, .int .u8 y.c, .slice Ay my cy] 27)
        have q0 := hz1.cell 0
        have q1 := hz1.cell 1
        have q2 := hz1.cell 2
        have q3 := hz1.cell 3
        have q4 := hz1.cell 4
        have hq := Hs.out x y hn Ax mx cx Ay my cy _ (((hx.more hbel.size).below hbB).more hbB.size) (((hy.more hbel.size).below hbB).more hbB.size)
        rw [hP] at hq
        have Hq := Lib.hid hq
        have HbB := Lib.hid (hbel.trans (hbB.mono hbel.size))
        have k1 : (0 : Int) ≤ (k : Int) := by omega
        have k2 : (k : Int) < m := by omega
        clear hc hc' hx hy hxk hyk hq hP hbel hbB hfar f0 f1 f2 f3 f4 hn hz1
        cases P with
        | true =>
          have heq2 : ∀ j (h1 : j < xs.length) (h2 : j < ys.length), j < k + 1 → sameT xs[j] ys[j] = true := fun j h1 h2 hj => by
            rcases Nat.lt_or_ge j k with h | h
            · exact Heq.out j h1 h2 h
            · have : j = k := by omega
              subst this
              exact HP.out
          have Heq2 := Lib.hid heq2
          clear heq2
          go_wp2_with fail
          refine Hq.out.mono ?_; rintro e w1 ⟨rfl, hb1⟩
          have Hb1 := Lib.hid (HbB.out.trans (hb1.mono HbB.out.size))
          clear hb1 q0 q1 q2 q3 q4 g0 g1 g2 g3 g4 e0 e1 e2 e3 e4
          go_wp2_with fail
          go_roundg (m - (k + 1))
          case measure => omega
          case rel => exact ⟨k + 1, by omega, rfl, by go_num, Heq2.out, Hb1.out⟩
        | false =>
          have hre : r = false := by rw [← HR.out]; exact sameL_ne hk1 hk2 HP.out
          subst hre
          go_wp2_with fail
          refine Hq.out.mono ?_; rintro e w1 ⟨rfl, hb1⟩
          have Hb1 := Lib.hid (HbB.out.trans (hb1.mono HbB.out.size))
          clear hb1 q0 q1 q2 q3 q4 g0 g1 g2 g3 g4 e0 e1 e2 e3 e4
          go_wp2_with fail
          go_ret
          exact ⟨rfl, Hb1.out⟩
      · have d1 : decide (k < m) = false := by simpa using hkm
        have hre : r = true := by rw [← HR.out]; exact sameL_all (by omega) fun i h1 h2 => Heq.out i h1 h2 (by omega)
        subst hre
        have Hb := Lib.hid hbel
        clear hbel
        go_wp2_with fail
        go_ret
        exact ⟨rfl, Hb.out⟩
  · have d0 : ((m : Int) != m') = true := by simp; omega
    have hre : r = false := by rw [← HR.out]; exact sameL_len (by omega)
    subst hre
    go_enter Tryd.func48, Tryd.ntmps48
    go_wp2_with fail
    go_ret
    exact ⟨rfl, Below.refl _ _⟩

set_option maxRecDepth 100000 in
set_option maxHeartbeats 4000000 in
theorem same_go : ∀ (N : Nat) (a b : TyD), nodes a ≤ N → ∀ (A : Option Addr) (m cp : Nat) (A' : Option Addr) (m' cp' : Nat) (w : World), TysV w w.heap.size A m cp a.l → TysV w w.heap.size A' m' cp' b.l →
    Calls Tryd.prog 21 #[.agg #[.int .u8 a.k, .int .i64 a.n, .int .i64 a.v, .int .u8 a.c, .slice A m cp], .agg #[.int .u8 b.k, .int .i64 b.n, .int .i64 b.v, .int .u8 b.c, .slice A' m' cp']] w fun e w' => e = .returned (.bool (sameT a b)) ∧ Below w.heap.size w w'
  | 0, a, b, hN, A, m, cp, A', m', cp', w, h1, h2 => absurd hN (by rw [nodes_eq a]; omega)
  | N + 1, a, b, hN, A, m, cp, A', m', cp', w, h1, h2 => by
    have hl1 := h1.len
    have hl2 := h2.len
    have m63 : m ≤ 9223372036854775807 := Nat.le_trans h1.2.1 h1.2.2.1
    have m63' : m' ≤ 9223372036854775807 := Nat.le_trans h2.2.1 h2.2.2.1
    have hbx : Below w.heap.size w ((w.alloc (Obj.cells #[.int .u8 a.k, .int .i64 a.n, .int .i64 a.v, .int .u8 a.c, .slice A m cp] 27)).alloc (Obj.cells #[.int .u8 b.k, .int .i64 b.n, .int .i64 b.v, .int .u8 b.c, .slice A' m' cp'] 27)) := ((Below.refl _ _).alloc (Nat.le_refl _) _).alloc (by simp) _
    have hz := (blk_new w #[.int .u8 a.k, .int .i64 a.n, .int .i64 a.v, .int .u8 a.c, .slice A m cp] 27).alloc (Obj.cells #[.int .u8 b.k, .int .i64 b.n, .int .i64 b.v, .int .u8 b.c, .slice A' m' cp'] 27)
    have hy := blk_new (w.alloc (Obj.cells #[.int .u8 a.k, .int .i64 a.n, .int .i64 a.v, .int .u8 a.c, .slice A m cp] 27)) #[.int .u8 b.k, .int .i64 b.n, .int .i64 b.v, .int .u8 b.c, .slice A' m' cp'] 27
    rw [World.size_alloc] at hy
    obtain ⟨W, hW⟩ : ∃ W, (w.alloc (Obj.cells #[.int .u8 a.k, .int .i64 a.n, .int .i64 a.v, .int .u8 a.c, .slice A m cp] 27)).alloc (Obj.cells #[.int .u8 b.k, .int .i64 b.n, .int .i64 b.v, .int .u8 b.c, .slice A' m' cp'] 27) = W := ⟨_, rfl⟩
    rw [hW] at hbx hz hy
    have HW := Lib.hid hW
    have Hbx := Lib.hid hbx
    have Hz := Lib.hid hz
    have Hy := Lib.hid hy
    have HA := Lib.hid ((h1.below hbx).more hbx.size)
    have HB := Lib.hid ((h2.below hbx).more hbx.size)
    have hst := sameT_eq a b
    have HN : Hid (∀ i (h : i < a.l.length), nodes a.l[i] ≤ N) := Lib.hid fun i h => by have := nodes_get h; omega
    clear h1 h2 hbx hz hy hW hN
    have x0 := Hz.out.cell 0
    have x1 := Hz.out.cell 1
    have x2 := Hz.out.cell 2
    have x3 := Hz.out.cell 3
    have x4 := Hz.out.cell 4
    have y0 := Hy.out.cell 0
    have y1 := Hy.out.cell 1
    have y2 := Hy.out.cell 2
    have y3 := Hy.out.cell 3
    have y4 := Hy.out.cell 4
    by_cases hk : a.k = b.k
    · have d1 : (a.k == b.k) = true := by simp [hk]
      rw [show (a.k == b.k) = true from by simp [hk]] at hst
      clear hk
      by_cases hn : a.n = b.n
      · have d2 : (a.n == b.n) = true := by simp [hn]
        rw [show (a.n == b.n) = true from by simp [hn]] at hst
        clear hn
        by_cases hv : a.v = b.v
        · have d3 : (a.v == b.v) = true := by simp [hv]
          have d3' : (a.v != b.v) = false := by simp [hv]
          rw [d3] at hst
          clear hv
          by_cases hc : a.c = b.c
          · have d4 : (a.c == b.c) = true := by simp [hc]
            have d4' : (a.c != b.c) = false := by simp [hc]
            rw [d4] at hst
            clear hc
            simp only [Bool.true_and, Bool.and_true] at hst
            have Hst := Lib.hid hst
            clear hst
            obtain ⟨R, hR⟩ : ∃ R, sameT.sameL a.l b.l = R := ⟨_, rfl⟩
            have hq := equalT_any N (fun x y hx => same_go N x y hx) a.l b.l HN.out A m cp A' m' cp' W HA.out HB.out R hR
            have Hq := Lib.hid hq
            have HR : Hid (R = sameT a b) := Lib.hid (by rw [Hst.out, hR])
            clear hq hR
            go_enter Tryd.func21, Tryd.ntmps21
            go_wp2_with fail
            rw [HW.out]
            go_wp2_with fail
            refine Hq.out.mono ?_; rintro e w1 ⟨rfl, hb1⟩
            have hb2 := Hbx.out.trans (hb1.mono Hbx.out.size)
            clear hb1 x0 x1 x2 x3 x4 y0 y1 y2 y3 y4
            go_wp2_with fail
            go_ret
            exact ⟨ret_bool HR.out, hb2⟩
          · have d4 : (a.c == b.c) = false := by simp [hc]
            have d4' : (a.c != b.c) = true := by simp [hc]
            rw [d4] at hst
            clear hc
            have HR : Hid (false = sameT a b) := Lib.hid (by rw [hst]; rfl)
            clear hst
            go_enter Tryd.func21, Tryd.ntmps21
            go_wp2_with fail
            rw [HW.out]
            go_wp2_with fail
            go_ret
            exact ⟨ret_bool HR.out, Hbx.out⟩
        · have d3 : (a.v == b.v) = false := by simp [hv]
          have d3' : (a.v != b.v) = true := by simp [hv]
          rw [d3] at hst
          clear hv
          have HR : Hid (false = sameT a b) := Lib.hid (by rw [hst]; rfl)
          clear hst
          go_enter Tryd.func21, Tryd.ntmps21
          go_wp2_with fail
          rw [HW.out]
          go_wp2_with fail
          go_ret
          exact ⟨ret_bool HR.out, Hbx.out⟩
      · have d2 : (a.n == b.n) = false := by simp [hn]
        rw [show (a.n == b.n) = false from by simp [hn]] at hst
        clear hn
        have HR : Hid (false = sameT a b) := Lib.hid (by rw [hst]; rfl)
        clear hst
        go_enter Tryd.func21, Tryd.ntmps21
        go_wp2_with fail
        rw [HW.out]
        go_wp2_with fail
        go_ret
        exact ⟨ret_bool HR.out, Hbx.out⟩
    · have d1 : (a.k == b.k) = false := by simp [hk]
      rw [show (a.k == b.k) = false from by simp [hk]] at hst
      clear hk
      have HR : Hid (false = sameT a b) := Lib.hid (by rw [hst]; rfl)
      clear hst
      go_enter Tryd.func21, Tryd.ntmps21
      go_wp2_with fail
      rw [HW.out]
      go_wp2_with fail
      go_ret
      exact ⟨ret_bool HR.out, Hbx.out⟩

set_option maxRecDepth 100000 in
set_option maxHeartbeats 4000000 in
theorem refSame_go : ∀ (N : Nat) (a b : TyD), nodes a ≤ N → ∀ (A : Option Addr) (m cp : Nat) (A' : Option Addr) (m' cp' : Nat) (w : World), TysV w w.heap.size A m cp a.l → TysV w w.heap.size A' m' cp' b.l →
    Calls Tryd.prog 22 #[.agg #[.int .u8 a.k, .int .i64 a.n, .int .i64 a.v, .int .u8 a.c, .slice A m cp], .agg #[.int .u8 b.k, .int .i64 b.n, .int .i64 b.v, .int .u8 b.c, .slice A' m' cp']] w fun e w' => e = .returned (.bool (sameT a b)) ∧ Below w.heap.size w w'
  | 0, a, b, hN, A, m, cp, A', m', cp', w, h1, h2 => absurd hN (by rw [nodes_eq a]; omega)
  | N + 1, a, b, hN, A, m, cp, A', m', cp', w, h1, h2 => by
    have hl1 := h1.len
    have hl2 := h2.len
    have m63 : m ≤ 9223372036854775807 := Nat.le_trans h1.2.1 h1.2.2.1
    have m63' : m' ≤ 9223372036854775807 := Nat.le_trans h2.2.1 h2.2.2.1
    have hbx : Below w.heap.size w ((w.alloc (Obj.cells #[.int .u8 a.k, .int .i64 a.n, .int .i64 a.v, .int .u8 a.c, .slice A m cp] 27)).alloc (Obj.cells #[.int .u8 b.k, .int .i64 b.n, .int .i64 b.v, .int .u8 b.c, .slice A' m' cp'] 27)) := ((Below.refl _ _).alloc (Nat.le_refl _) _).alloc (by simp) _
    have hz := (blk_new w #[.int .u8 a.k, .int .i64 a.n, .int .i64 a.v, .int .u8 a.c, .slice A m cp] 27).alloc (Obj.cells #[.int .u8 b.k, .int .i64 b.n, .int .i64 b.v, .int .u8 b.c, .slice A' m' cp'] 27)
    have hy := blk_new (w.alloc (Obj.cells #[.int .u8 a.k, .int .i64 a.n, .int .i64 a.v, .int .u8 a.c, .slice A m cp] 27)) #[.int .u8 b.k, .int .i64 b.n, .int .i64 b.v, .int .u8 b.c, .slice A' m' cp'] 27
    rw [World.size_alloc] at hy
    obtain ⟨W, hW⟩ : ∃ W, (w.alloc (Obj.cells #[.int .u8 a.k, .int .i64 a.n, .int .i64 a.v, .int .u8 a.c, .slice A m cp] 27)).alloc (Obj.cells #[.int .u8 b.k, .int .i64 b.n, .int .i64 b.v, .int .u8 b.c, .slice A' m' cp'] 27) = W := ⟨_, rfl⟩
    rw [hW] at hbx hz hy
    have HW := Lib.hid hW
    have Hbx := Lib.hid hbx
    have Hz := Lib.hid hz
    have Hy := Lib.hid hy
    have HA := Lib.hid ((h1.below hbx).more hbx.size)
    have HB := Lib.hid ((h2.below hbx).more hbx.size)
    have hst := sameT_eq a b
    have HN : Hid (∀ i (h : i < a.l.length), nodes a.l[i] ≤ N) := Lib.hid fun i h => by have := nodes_get h; omega
    clear h1 h2 hbx hz hy hW hN
    have x0 := Hz.out.cell 0
    have x1 := Hz.out.cell 1
    have x2 := Hz.out.cell 2
    have x3 := Hz.out.cell 3
    have x4 := Hz.out.cell 4
    have y0 := Hy.out.cell 0
    have y1 := Hy.out.cell 1
    have y2 := Hy.out.cell 2
    have y3 := Hy.out.cell 3
    have y4 := Hy.out.cell 4
    by_cases hk : a.k = b.k
    · have d1 : (a.k != b.k) = false := by simp [hk]
      rw [show (a.k == b.k) = true from by simp [hk]] at hst
      clear hk
      by_cases hn : a.n = b.n
      · have d2 : (a.n != b.n) = false := by simp [hn]
        rw [show (a.n == b.n) = true from by simp [hn]] at hst
        clear hn
        by_cases hv : a.v = b.v
        · have d3 : (a.v == b.v) = true := by simp [hv]
          have d3' : (a.v != b.v) = false := by simp [hv]
          rw [d3] at hst
          clear hv
          by_cases hc : a.c = b.c
          · have d4 : (a.c == b.c) = true := by simp [hc]
            have d4' : (a.c != b.c) = false := by simp [hc]
            rw [d4] at hst
            clear hc
            simp only [Bool.true_and, Bool.and_true] at hst
            have Hst := Lib.hid hst
            clear hst
            by_cases hm : m = m'
            · subst hm
              have d5 : ((m : Int) != m) = false := by simp
              go_enter Tryd.func22, Tryd.ntmps22
              go_wp2_with fail
              rw [HW.out]
              go_wp2_with fail
              have Hlz := Lib.hid Hz.out.lt
              have Hly := Lib.hid Hy.out.lt
              clear x0 x1 x2 x3 x4 y0 y1 y2 y3 y4
              go_loopg [5] m (fun gh i wr => ∃ k : Nat, k ≤ m ∧ gh = m - k ∧ i = .int .i64 k ∧ (∀ j (h1 : j < a.l.length) (h2 : j < b.l.length), j < k → sameT a.l[j] b.l[j] = true) ∧ Below W.heap.size W wr)
              case atStart => exact ⟨0, Nat.zero_le _, rfl, rfl, fun j _ _ h => absurd h (by omega), Below.refl _ _⟩
              case round =>
                obtain ⟨k, hk, rfl, rfl, heq, hbel⟩ := hrel
                have Heq := Lib.hid heq
                clear heq
                have x4 := (Hz.out.below hbel Hlz.out).cell 4
                have y4 := (Hy.out.below hbel Hly.out).cell 4
                by_cases hkm : k < m
                · have d6 : decide (k < m) = true := by simpa using hkm
                  have hk1 : k < a.l.length := by omega
                  have hk2 : k < b.l.length := by omega
                  obtain ⟨bb, off, rfl, hb, hc⟩ := (HA.out.below hbel).at_ (by omega)
                  obtain ⟨bb', off', rfl, hb', hc'⟩ := (HB.out.below hbel).at_ (by omega)
                  obtain ⟨e0, e1, e2, e3, Ax, mx, cx, e4, hx⟩ := tyAt_iff.1 (hc k hk1)
                  obtain ⟨f0, f1, f2, f3, Ay, my, cy, f4, hy⟩ := tyAt_iff.1 (hc' k hk2)
                  have hn := HN.out k hk1
                  obtain ⟨P, hP⟩ : ∃ P, sameT a.l[k] b.l[k] = P := ⟨_, rfl⟩
                  have HP := Lib.hid hP
                  obtain ⟨x, hxk⟩ : ∃ x, a.l[k] = x := ⟨_, rfl⟩
                  obtain ⟨y, hyk⟩ : ∃ y, b.l[k] = y := ⟨_, rfl⟩
                  rw [hxk] at e0 e1 e2 e3 hx hn hP
                  rw [hyk] at f0 f1 f2 f3 hy hP
                  have hq : ∀ d os, Calls Tryd.prog 22 #[.agg #[.int .u8 x.k, .int .i64 x.n, .int .i64 x.v, .int .u8 x.c, .slice Ax mx cx], .agg #[.int .u8 y.k, .int .i64 y.n, .int .i64 y.v, .int .u8 y.c, .slice Ay my cy]] («Sort».grow (redrawn wr d) os) (fun e w' => e = .returned (.bool P) ∧ Below («Sort».grow (redrawn wr d) os).heap.size («Sort».grow (redrawn wr d) os) w') := fun d os => by
                    rw [← hP]
                    exact refSame_go N x y hn Ax mx cx Ay my cy _ (((hx.more hbel.size).below (below_regrown wr d os)).more (below_regrown wr d os).size) (((hy.more hbel.size).below (below_regrown wr d os)).more (below_regrown wr d os).size)
                  replace hq := Lib.hid hq
                  have k1 : (0 : Int) ≤ (k : Int) := by omega
                  have k2 : (k : Int) < m := by omega
                  have Hbel := Lib.hid hbel
                  clear hc hc' hx hy hxk hyk hP hbel hn
                  go_wp2_with fail
                  have ke0 := fun d os => cell_regrown e0 d os
                  have ke1 := fun d os => cell_regrown e1 d os
                  have ke2 := fun d os => cell_regrown e2 d os
                  have ke3 := fun d os => cell_regrown e3 d os
                  have ke4 := fun d os => cell_regrown e4 d os
                  have kf0 := fun d os => cell_regrown f0 d os
                  have kf1 := fun d os => cell_regrown f1 d os
                  have kf2 := fun d os => cell_regrown f2 d os
                  have kf3 := fun d os => cell_regrown f3 d os
                  have kf4 := fun d os => cell_regrown f4 d os
                  have kx4 := fun d os => cell_regrown x4 d os
                  have ky4 := fun d os => cell_regrown y4 d os
                  clear e0 e1 e2 e3 e4 f0 f1 f2 f3 f4 x4 y4
                  cases P with
                  | true =>
                    have heq2 : ∀ j (h1 : j < a.l.length) (h2 : j < b.l.length), j < k + 1 → sameT a.l[j] b.l[j] = true := fun j h1 h2 hj => by
                      rcases Nat.lt_or_ge j k with h | h
                      · exact Heq.out j h1 h2 h
                      · have : j = k := by omega
                        subst this
                        exact HP.out
                    have Heq2 := Lib.hid heq2
                    clear heq2
                    refine wp_region_quiet_below (by kernel_rfl) (by kernel_rfl) ?_
                    repeat (go_big_quiet_step ((first | (go_at_call 22; exact Calls.regrown_of (hq.out _ _)))))
                    refine wpQuiet_nil ?_
                    intro _ hw'
                    obtain ⟨⟨dq, osq⟩, hw''⟩ := hw'
                    subst hw''
                    have Hb2 := Lib.hid (Hbel.out.trans ((below_regrown wr dq osq).mono Hbel.out.size))
                    clear ke0 ke1 ke2 ke3 ke4 kf0 kf1 kf2 kf3 kf4 kx4 ky4 hq
                    go_wp2_with fail
                    go_roundg (m - (k + 1))
                    case measure => omega
                    case rel => exact ⟨k + 1, by omega, rfl, by go_num, Heq2.out, Hb2.out⟩
                  | false =>
                    have HR : Hid (false = sameT a b) := Lib.hid (by rw [Hst.out]; exact (sameL_ne hk1 hk2 HP.out).symm)
                    refine wp_region_quiet_below (by kernel_rfl) (by kernel_rfl) ?_
                    repeat (go_big_quiet_step ((first | (go_at_call 22; exact Calls.regrown_of (hq.out _ _)))))
                    refine wpQuiet_nil ?_
                    intro _ hw'
                    obtain ⟨⟨dq, osq⟩, hw''⟩ := hw'
                    subst hw''
                    have Hb2 := Lib.hid (Hbx.out.trans ((Hbel.out.trans ((below_regrown wr dq osq).mono Hbel.out.size)).mono Hbx.out.size))
                    clear ke0 ke1 ke2 ke3 ke4 kf0 kf1 kf2 kf3 kf4 kx4 ky4 hq
                    go_wp2_with fail
                    go_ret
                    exact ⟨ret_bool HR.out, Hb2.out⟩
                · have d6 : decide (k < m) = false := by simpa using hkm
                  have HR : Hid (true = sameT a b) := Lib.hid (by rw [Hst.out]; exact (sameL_all (by omega) fun i h1 h2 => Heq.out i h1 h2 (by omega)).symm)
                  have Hb := Lib.hid (Hbx.out.trans (hbel.mono Hbx.out.size))
                  clear hbel
                  go_wp2_with fail
                  go_ret
                  exact ⟨ret_bool HR.out, Hb.out⟩
            · have d5 : ((m : Int) != m') = true := by simp; omega
              have HR : Hid (false = sameT a b) := Lib.hid (by rw [Hst.out]; exact (sameL_len (by omega)).symm)
              go_enter Tryd.func22, Tryd.ntmps22
              go_wp2_with fail
              rw [HW.out]
              go_wp2_with fail
              go_ret
              exact ⟨ret_bool HR.out, Hbx.out⟩
          · have d4 : (a.c == b.c) = false := by simp [hc]
            have d4' : (a.c != b.c) = true := by simp [hc]
            rw [d4] at hst
            clear hc
            have HR : Hid (false = sameT a b) := Lib.hid (by rw [hst]; rfl)
            clear hst
            go_enter Tryd.func22, Tryd.ntmps22
            go_wp2_with fail
            rw [HW.out]
            go_wp2_with fail
            go_ret
            exact ⟨ret_bool HR.out, Hbx.out⟩
        · have d3 : (a.v == b.v) = false := by simp [hv]
          have d3' : (a.v != b.v) = true := by simp [hv]
          rw [d3] at hst
          clear hv
          have HR : Hid (false = sameT a b) := Lib.hid (by rw [hst]; rfl)
          clear hst
          go_enter Tryd.func22, Tryd.ntmps22
          go_wp2_with fail
          rw [HW.out]
          go_wp2_with fail
          go_ret
          exact ⟨ret_bool HR.out, Hbx.out⟩
      · have d2 : (a.n != b.n) = true := by simp [hn]
        rw [show (a.n == b.n) = false from by simp [hn]] at hst
        clear hn
        have HR : Hid (false = sameT a b) := Lib.hid (by rw [hst]; rfl)
        clear hst
        go_enter Tryd.func22, Tryd.ntmps22
        go_wp2_with fail
        rw [HW.out]
        go_wp2_with fail
        go_ret
        exact ⟨ret_bool HR.out, Hbx.out⟩
    · have d1 : (a.k != b.k) = true := by simp [hk]
      rw [show (a.k == b.k) = false from by simp [hk]] at hst
      clear hk
      have HR : Hid (false = sameT a b) := Lib.hid (by rw [hst]; rfl)
      clear hst
      go_enter Tryd.func22, Tryd.ntmps22
      go_wp2_with fail
      rw [HW.out]
      go_wp2_with fail
      go_ret
      exact ⟨ret_bool HR.out, Hbx.out⟩

end Go.Proofs.YtidamlkekgnhgaaDoor
