/- Contracts: ty.Size, usufructref06.Size, ty.kids, ty.is, ty.Same, usufructref06.Same. -/
import Derived.Test.YtidamlkekgnhgaaDoorTyA
import Derived.Test.YtidamlkekgnhgaaDoorTermDef
import Derived.Test.YtidamlkekgnhgaaDoorTermIs
import Derived.Test.YtidamlkekgnhgaaDoorRefI
import Derived.IntWalk
import Derived.BigQuiet
import Derived.Lib.QuietBelow
import Derived.Deep.QuietTactic
namespace Go.Proofs.YtidamlkekgnhgaaDoor
set_option linter.unusedVariables false
set_option linter.unusedSimpArgs false
open Go.RowKit

theorem wrap_add (a b : Int) : wrap64 (wrap64 a + wrap64 b) = wrap64 (a + b) := by
  rw [← IntWalk.i64_left, ← IntWalk.i64_left, ← IntWalk.i64_left, ← IntWalk.i64_left]
  simp only [IntKind.wrap_i64]
  omega
/-- the size that is told -/
def sizeW (t : TyD) : Int := wrap64 (nodes t)
def sizeLW (l : List TyD) : Int := wrap64 (1 + nodes.nodesL l)
theorem sizeLW_snoc (l : List TyD) (t : TyD) : wrap64 (sizeLW l + sizeW t) = sizeLW (l ++ [t]) := by
  unfold sizeLW sizeW
  rw [wrap_add, nodesL_snoc]
  congr 1
  push_cast
  omega
theorem sizeLW_nil : sizeLW [] = 1 := by unfold sizeLW nodes.nodesL; decide +kernel
theorem sizeLW_all (t : TyD) : sizeLW t.l = sizeW t := by unfold sizeLW sizeW; rw [nodes_eq t]; congr 1

set_option maxRecDepth 100000 in
set_option maxHeartbeats 2000000 in
theorem size_go : ∀ (N : Nat) (t : TyD), nodes t ≤ N → ∀ (x : Value) (w : World), TyV w w.heap.size x t →
    Calls Tryd.prog 17 #[x] w fun e w' => e = .returned (.int .i64 (sizeW t)) ∧ Below w.heap.size w w'
  | 0, t, hN, x, w, h => absurd hN (by rw [nodes_eq t]; omega)
  | N + 1, t, hN, x, w, h => by
    obtain ⟨A, m, cp, rfl, hl⟩ := h
    have hlen := hl.len
    have m63 : m ≤ 9223372036854775807 := Nat.le_trans hl.2.1 hl.2.2.1
    have hbx := below_box (w := w) (Obj.cells #[.int .u8 t.k, .int .i64 t.n, .int .i64 t.v, .int .u8 t.c, .slice A m cp] 27)
    have hz := blk_new w #[.int .u8 t.k, .int .i64 t.n, .int .i64 t.v, .int .u8 t.c, .slice A m cp] 27
    have hL := (hl.below hbx).more hbx.size
    have z4 : (w.alloc (Obj.cells #[.int .u8 t.k, .int .i64 t.n, .int .i64 t.v, .int .u8 t.c, .slice A m cp] 27)).cell? ⟨w.heap.size, 4, none⟩ = some (.slice A m cp) := hz.cell 4
    have HL := Lib.hid hL
    have Hbx := Lib.hid hbx
    have HN : Hid (∀ i (h : i < t.l.length), nodes t.l[i] ≤ N) := Lib.hid fun i h => by have := nodes_get h; omega
    clear hl hbx hz hL hN
    go_enter Tryd.func17, Tryd.ntmps17
    go_wp2_with fail
    obtain ⟨w1, hw1⟩ : ∃ w1, w.alloc (Obj.cells #[.int .u8 t.k, .int .i64 t.n, .int .i64 t.v, .int .u8 t.c, .slice A m cp] 27) = w1 := ⟨_, rfl⟩
    rw [hw1] at HL Hbx z4 ⊢
    clear hw1 z4
    go_loopg [3, 9] m (fun gh s i wr => ∃ k : Nat, k ≤ m ∧ gh = m - k ∧ i = .int .i64 k ∧ s = .int .i64 (sizeLW (t.l.take k)) ∧ Below w1.heap.size w1 wr)
    case atStart => exact ⟨0, Nat.zero_le _, rfl, rfl, by rw [List.take_zero, sizeLW_nil], Below.refl _ _⟩
    case round =>
      obtain ⟨k, hk, rfl, rfl, rfl, hbel⟩ := hrel
      by_cases hkm : k < m
      · have d0 : decide (k < m) = true := by simpa using hkm
        have hk' : k < t.l.length := by omega
        obtain ⟨b, off, rfl, hb, hc⟩ := (HL.out.below hbel).at_ (by omega)
        obtain ⟨e0, e1, e2, e3, Ax, mx, cx, e4, hx⟩ := tyAt_iff.1 (hc k hk')
        have hst := sizeLW_snoc (t.l.take k) t.l[k]
        rw [← List.take_succ_eq_append_getElem hk'] at hst
        have hn := HN.out k hk'
        obtain ⟨x, hxk⟩ : ∃ x, t.l[k] = x := ⟨_, rfl⟩
        rw [hxk] at e0 e1 e2 e3 hx hst hn
        have hbA := hbel.alloc hbel.size (Obj.cells #[.int .u8 x.k, .int .i64 x.n, .int .i64 x.v, .int .u8 x.c, .slice Ax mx cx] 27)
        have hbB := below_box (w := wr) (Obj.cells #[.int .u8 x.k, .int .i64 x.n, .int .i64 x.v, .int .u8 x.c, .slice Ax mx cx] 27)
        have hq := size_go N x hn (.agg #[.int .u8 x.k, .int .i64 x.n, .int .i64 x.v, .int .u8 x.c, .slice Ax mx cx]) _ ⟨Ax, mx, cx, rfl, ((hx.more hbel.size).below hbB).more hbB.size⟩
        obtain ⟨r, hr⟩ : ∃ r, sizeW x = r := ⟨_, rfl⟩
        obtain ⟨s, hs⟩ : ∃ s, sizeLW (t.l.take k) = s := ⟨_, rfl⟩
        rw [hr] at hq hst
        rw [hs] at hst ⊢
        have Hq := Lib.hid hq
        have Hst := Lib.hid hst
        have HbA := Lib.hid hbA
        have k1 : (0 : Int) ≤ (k : Int) := by omega
        have k2 : (k : Int) < m := by omega
        clear hc hx hxk hq hst hbA hbB hr hs hn hbel
        go_wp2_with fail
        refine Hq.out.mono ?_; rintro e w3 ⟨rfl, hb3⟩
        have Hb3 := Lib.hid (HbA.out.trans (hb3.mono HbA.out.size))
        clear hb3 Hq
        go_wp2_with fail
        go_roundg (m - (k + 1))
        case measure => omega
        case rel => exact ⟨k + 1, by omega, rfl, by go_num, by rw [Hst.out], Hb3.out⟩
      · have d0 : decide (k < m) = false := by simpa using hkm
        have HR : Hid (sizeLW (t.l.take k) = sizeW t) := Lib.hid (by rw [List.take_of_length_le (by omega), sizeLW_all])
        have Hb := Lib.hid (Hbx.out.trans (hbel.mono Hbx.out.size))
        clear hbel
        go_wp2_with fail
        go_ret
        exact ⟨ret_int HR.out, Hb.out⟩
theorem size_any (t : TyD) (x : Value) (w : World) (h : TyV w w.heap.size x t) :
    Calls Tryd.prog 17 #[x] w fun e w' => e = .returned (.int .i64 (sizeW t)) ∧ Below w.heap.size w w' := size_go (nodes t) t (Nat.le_refl _) x w h

set_option maxRecDepth 100000 in
set_option maxHeartbeats 2000000 in
theorem refSize_go : ∀ (N : Nat) (t : TyD), nodes t ≤ N → ∀ (x : Value) (w : World), TyV w w.heap.size x t →
    Calls Tryd.prog 18 #[x] w fun e w' => e = .returned (.int .i64 (sizeW t)) ∧ Below w.heap.size w w'
  | 0, t, hN, x, w, h => absurd hN (by rw [nodes_eq t]; omega)
  | N + 1, t, hN, x, w, h => by
    obtain ⟨A, m, cp, rfl, hl⟩ := h
    have hlen := hl.len
    have m63 : m ≤ 9223372036854775807 := Nat.le_trans hl.2.1 hl.2.2.1
    have hbx := below_box (w := w) (Obj.cells #[.int .u8 t.k, .int .i64 t.n, .int .i64 t.v, .int .u8 t.c, .slice A m cp] 27)
    have hz := blk_new w #[.int .u8 t.k, .int .i64 t.n, .int .i64 t.v, .int .u8 t.c, .slice A m cp] 27
    have hL := (hl.below hbx).more hbx.size
    have HL := Lib.hid hL
    have Hz := Lib.hid hz
    have Hbx := Lib.hid hbx
    have HN : Hid (∀ i (h : i < t.l.length), nodes t.l[i] ≤ N) := Lib.hid fun i h => by have := nodes_get h; omega
    clear hl hbx hz hL hN
    go_enter Tryd.func18, Tryd.ntmps18
    go_wp2_with fail
    obtain ⟨w1, hw1⟩ : ∃ w1, w.alloc (Obj.cells #[.int .u8 t.k, .int .i64 t.n, .int .i64 t.v, .int .u8 t.c, .slice A m cp] 27) = w1 := ⟨_, rfl⟩
    rw [hw1] at HL Hbx Hz ⊢
    clear hw1
    have Hlt := Lib.hid Hz.out.lt
    go_loopg [3, 4] m (fun gh s i wr => ∃ k : Nat, k ≤ m ∧ gh = m - k ∧ i = .int .i64 k ∧ s = .int .i64 (sizeLW (t.l.take k)) ∧ Below w1.heap.size w1 wr)
    case atStart => exact ⟨0, Nat.zero_le _, rfl, rfl, by rw [List.take_zero, sizeLW_nil], Below.refl _ _⟩
    case round =>
      obtain ⟨k, hk, rfl, rfl, rfl, hbel⟩ := hrel
      have z4 : wr.cell? ⟨w.heap.size, 4, none⟩ = some (.slice A m cp) := (Hz.out.below hbel Hlt.out).cell 4
      by_cases hkm : k < m
      · have d0 : decide (k < m) = true := by simpa using hkm
        have hk' : k < t.l.length := by omega
        obtain ⟨b, off, rfl, hb, hc⟩ := (HL.out.below hbel).at_ (by omega)
        obtain ⟨e0, e1, e2, e3, Ax, mx, cx, e4, hx⟩ := tyAt_iff.1 (hc k hk')
        have hst := sizeLW_snoc (t.l.take k) t.l[k]
        rw [← List.take_succ_eq_append_getElem hk'] at hst
        have hn := HN.out k hk'
        obtain ⟨x, hxk⟩ : ∃ x, t.l[k] = x := ⟨_, rfl⟩
        rw [hxk] at e0 e1 e2 e3 hx hst hn
        have hq := refSize_go N x hn (.agg #[.int .u8 x.k, .int .i64 x.n, .int .i64 x.v, .int .u8 x.c, .slice Ax mx cx]) wr ⟨Ax, mx, cx, rfl, hx.more hbel.size⟩
        obtain ⟨r, hr⟩ : ∃ r, sizeW x = r := ⟨_, rfl⟩
        obtain ⟨s, hs⟩ : ∃ s, sizeLW (t.l.take k) = s := ⟨_, rfl⟩
        rw [hr] at hq hst
        rw [hs] at hst ⊢
        have Hq := Lib.hid hq
        have Hst := Lib.hid hst
        have Hbel := Lib.hid hbel
        have k1 : (0 : Int) ≤ (k : Int) := by omega
        have k2 : (k : Int) < m := by omega
        clear hc hx hxk hq hst hr hs hn hbel
        go_wp2_with fail
        refine Hq.out.mono ?_; rintro e w3 ⟨rfl, hb3⟩
        have Hb3 := Lib.hid (Hbel.out.trans (hb3.mono Hbel.out.size))
        clear hb3 Hq
        go_wp2_with fail
        go_roundg (m - (k + 1))
        case measure => omega
        case rel => exact ⟨k + 1, by omega, rfl, by go_num, by rw [Hst.out], Hb3.out⟩
      · have d0 : decide (k < m) = false := by simpa using hkm
        have HR : Hid (sizeLW (t.l.take k) = sizeW t) := Lib.hid (by rw [List.take_of_length_le (by omega), sizeLW_all])
        have Hb := Lib.hid (Hbx.out.trans (hbel.mono Hbx.out.size))
        clear hbel
        go_wp2_with fail
        go_ret
        exact ⟨ret_int HR.out, Hb.out⟩
theorem refSize_any (t : TyD) (x : Value) (w : World) (h : TyV w w.heap.size x t) :
    Calls Tryd.prog 18 #[x] w fun e w' => e = .returned (.int .i64 (sizeW t)) ∧ Below w.heap.size w w' := refSize_go (nodes t) t (Nat.le_refl _) x w h

/-- how many types are within one of a kind, -1: any number -/
def kidsI (k : Int) : Int := if k = 6 then 1 else if k = 7 then 2 else if k = 8 then -1 else 0
theorem kids_any (k : Int) (w : World) : Calls Tryd.prog 76 #[.int .u8 k] w fun e w' => e = .returned (.int .i64 (kidsI k)) ∧ w = w' := by
  by_cases h6 : k = 6
  · subst h6
    go_enter Tryd.func76, Tryd.ntmps76
    go_wp2_with fail
    go_ret
    exact ⟨rfl, rfl⟩
  · by_cases h7 : k = 7
    · subst h7
      go_enter Tryd.func76, Tryd.ntmps76
      go_wp2_with fail
      go_ret
      exact ⟨rfl, rfl⟩
    · by_cases h8 : k = 8
      · subst h8
        go_enter Tryd.func76, Tryd.ntmps76
        go_wp2_with fail
        go_ret
        exact ⟨rfl, rfl⟩
      · have e : kidsI k = 0 := by unfold kidsI; rw [if_neg h6, if_neg h7, if_neg h8]
        have d6 : (k == 6) = false := by simp [h6]
        have d7 : (k == 7) = false := by simp [h7]
        have d8 : (k == 8) = false := by simp [h8]
        rw [e]
        clear e
        go_enter Tryd.func76, Tryd.ntmps76
        go_wp2_with fail
        go_ret
        exact ⟨rfl, rfl⟩

end Go.Proofs.YtidamlkekgnhgaaDoor
