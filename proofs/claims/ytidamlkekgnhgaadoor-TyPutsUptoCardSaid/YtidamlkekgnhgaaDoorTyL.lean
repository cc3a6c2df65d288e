/- The contract of ty.grown. -/
import Derived.Test.YtidamlkekgnhgaaDoorTyK
namespace Go.Proofs.YtidamlkekgnhgaaDoor
set_option linter.unusedVariables false
set_option linter.unusedSimpArgs false
open Go.RowKit

/-- how many nodes a type has with others at its variables, by their sizes -/
def grownN (sz : List Int) : TyD → Int
  | .mk k n _ _ l => if k = 1 ∧ n < sz.length then sz.getD n.toNat 0 else 1 + grownL sz l
where grownL (sz : List Int) : List TyD → Int
  | [] => 0
  | t :: r => grownN sz t + grownL sz r
theorem grownN_eq (sz : List Int) (t : TyD) : grownN sz t = if t.k = 1 ∧ t.n < sz.length then sz.getD t.n.toNat 0 else 1 + grownN.grownL sz t.l := by cases t; rw [grownN]; rfl
theorem grownL_snoc (sz : List Int) (l : List TyD) (t : TyD) : grownN.grownL sz (l ++ [t]) = grownN.grownL sz l + grownN sz t := by
  induction l with
  | nil => simp [grownN.grownL]
  | cons x l ih => simp only [List.cons_append, grownN.grownL, ih]; omega
def grownW (sz : List Int) (t : TyD) : Int := wrap64 (grownN sz t)
def grownLW (sz : List Int) (l : List TyD) : Int := wrap64 (1 + grownN.grownL sz l)
theorem grownLW_snoc (sz : List Int) (l : List TyD) (t : TyD) : wrap64 (grownLW sz l + grownW sz t) = grownLW sz (l ++ [t]) := by
  unfold grownLW grownW
  rw [wrap_add, grownL_snoc, Int.add_assoc]
theorem grownLW_nil (sz : List Int) : grownLW sz [] = 1 := by unfold grownLW grownN.grownL; decide +kernel
theorem mayT_n {t : TyD} (h : mayT t = true) : 0 ≤ t.n := by
  rw [mayT_eq, Bool.and_eq_true] at h
  have := h.1
  unfold isN at this
  simp only [Bool.and_eq_true, decide_eq_true_eq] at this
  exact this.1.1.1.1.2

set_option maxRecDepth 100000 in
set_option maxHeartbeats 2000000 in
theorem grown_go (sz : List Int) (hsz : ∀ s ∈ sz, wrap64 s = s) (A2 : Option Addr) (n2 c2 : Nat) (N : Nat) : ∀ (t : TyD), nodes t ≤ N → mayT t = true → ∀ (A : Option Addr) (m cp : Nat) (w : World), TysV w w.heap.size A m cp t.l → RdI .i64 w w.heap.size A2 n2 c2 sz →
    Calls Tryd.prog 57 #[.agg #[.int .u8 t.k, .int .i64 t.n, .int .i64 t.v, .int .u8 t.c, .slice A m cp], .slice A2 n2 c2] w fun e w' => e = .returned (.int .i64 (grownW sz t)) ∧ Below w.heap.size w w' := by
  induction N with
  | zero => intro t hN; exact absurd hN (by rw [nodes_eq t]; omega)
  | succ N ih =>
    intro t hN hm A m cp w hl hr
    have Ih := Lib.hid ih
    clear ih
    have hlen := hl.len
    have hl2 := hr.len
    have m63 : m ≤ 9223372036854775807 := Nat.le_trans hl.2.1 hl.2.2.1
    have n63 : n2 ≤ 9223372036854775807 := Nat.le_trans hr.2.1 hr.2.2
    have hn0 := mayT_n hm
    have hbx := below_box (w := w) (Obj.cells #[.int .u8 t.k, .int .i64 t.n, .int .i64 t.v, .int .u8 t.c, .slice A m cp] 27)
    have hz := blk_new w #[.int .u8 t.k, .int .i64 t.n, .int .i64 t.v, .int .u8 t.c, .slice A m cp] 27
    have hL := (hl.below hbx).more hbx.size
    have hR := (hr.below hbx).more hbx.size
    obtain ⟨W, hW⟩ : ∃ W, w.alloc (Obj.cells #[.int .u8 t.k, .int .i64 t.n, .int .i64 t.v, .int .u8 t.c, .slice A m cp] 27) = W := ⟨_, rfl⟩
    rw [hW] at hbx hz hL hR
    have z0 := hz.cell 0
    have z1 := hz.cell 1
    have z4 := hz.cell 4
    have HW := Lib.hid hW
    have HL := Lib.hid hL
    have HR := Lib.hid hR
    have Hbx := Lib.hid hbx
    have HM := Lib.hid hm
    have heq := grownN_eq sz t
    have Heq := Lib.hid heq
    have HN : Hid (∀ i (h : i < t.l.length), nodes t.l[i] ≤ N) := Lib.hid fun i h => by have := nodes_get h; omega
    clear hl hr hbx hz hL hR hW hm heq hN
    by_cases hvar : t.k = 1 ∧ t.n < n2
    · obtain ⟨hk, hn⟩ := hvar
      have d1 : (t.k == 1) = true := by simp [hk]
      have d2 : decide (t.n < n2) = true := by simpa using hn
      obtain ⟨b, off, rfl, hb, hc⟩ := HR.out.at_ (by omega)
      have hi : t.n.toNat < sz.length := by omega
      have v0 := hc t.n.toNat hi
      have hgd : grownW sz t = sz[t.n.toNat] := by
        unfold grownW
        rw [Heq.out, if_pos ⟨hk, by omega⟩, List.getD_eq_getElem?_getD, List.getElem?_eq_getElem hi]
        exact hsz _ (List.getElem_mem hi)
      have Hgd := Lib.hid hgd
      have hnn : ((t.n.toNat : Nat) : Int) = t.n := by omega
      have j1 : (0 : Int) ≤ t.n := hn0
      have j2 : t.n < n2 := hn
      rw [← HW.out] at v0
      have HB := Lib.hid Hbx.out
      rw [← HW.out] at HB
      clear hc hgd hk z0 z1 z4
      go_enter Tryd.func57, Tryd.ntmps57
      go_wp2_with fail
      go_ret
      exact ⟨ret_int Hgd.out.symm, HB.out⟩
    · have hgd : grownLW sz t.l = grownW sz t := by unfold grownLW grownW; rw [Heq.out, if_neg (by omega)]
      have Hgd := Lib.hid hgd
      clear hgd
      have hgo : Calls Tryd.prog 57 #[.agg #[.int .u8 t.k, .int .i64 t.n, .int .i64 t.v, .int .u8 t.c, .slice A m cp], .slice A2 n2 c2] w fun e w' => e = .returned (.int .i64 (grownW sz t)) ∧ Below w.heap.size w w' := by
        by_cases hk : t.k = 1
        · have d1 : (t.k == 1) = true := by simp [hk]
          have d2 : decide (t.n < n2) = false := by simp; omega
          clear hk hvar
          go_enter Tryd.func57, Tryd.ntmps57
          go_wp2_with fail
          rw [HW.out]
          go_wp2_with fail
          clear z0 z1 z4
          go_loopg [5, 26] m (fun gh s i wr => ∃ k : Nat, k ≤ m ∧ gh = m - k ∧ i = .int .i64 k ∧ s = .int .i64 (grownLW sz (t.l.take k)) ∧ Below W.heap.size W wr)
          case atStart => exact ⟨0, Nat.zero_le _, rfl, rfl, by rw [List.take_zero, grownLW_nil], Below.refl _ _⟩
          case round =>
            obtain ⟨k, hk, rfl, rfl, rfl, hbel⟩ := hrel
            by_cases hkm : k < m
            · have d0 : decide (k < m) = true := by simpa using hkm
              have hk' : k < t.l.length := by omega
              obtain ⟨b, off, rfl, hb, hc⟩ := (HL.out.below hbel).at_ (by omega)
              obtain ⟨e0, e1, e2, e3, Ax, mx, cx, e4, hx⟩ := tyAt_iff.1 (hc k hk')
              have hst := grownLW_snoc sz (t.l.take k) t.l[k]
              rw [← List.take_succ_eq_append_getElem hk'] at hst
              have hn := HN.out k hk'
              have hmx := mayT_kid HM.out hk'
              obtain ⟨x, hxk⟩ : ∃ x, t.l[k] = x := ⟨_, rfl⟩
              rw [hxk] at e0 e1 e2 e3 hx hst hn hmx
              have hbA := hbel.alloc hbel.size (Obj.cells #[.int .u8 x.k, .int .i64 x.n, .int .i64 x.v, .int .u8 x.c, .slice Ax mx cx] 27)
              have hbB := below_box (w := wr) (Obj.cells #[.int .u8 x.k, .int .i64 x.n, .int .i64 x.v, .int .u8 x.c, .slice Ax mx cx] 27)
              have hq := Ih.out x hn hmx Ax mx cx _ (((hx.more hbel.size).below hbB).more hbB.size) ((HR.out.below hbA).more hbA.size)
              obtain ⟨r, hr⟩ : ∃ r, grownW sz x = r := ⟨_, rfl⟩
              obtain ⟨s, hs⟩ : ∃ s, grownLW sz (t.l.take k) = s := ⟨_, rfl⟩
              rw [hr] at hq hst
              rw [hs] at hst ⊢
              have Hq := Lib.hid hq
              have Hst := Lib.hid hst
              have HbA := Lib.hid hbA
              have k1 : (0 : Int) ≤ (k : Int) := by omega
              have k2 : (k : Int) < m := by omega
              clear hc hx hxk hq hst hbA hbB hr hs hn hmx hbel
              go_wp2_with fail
              refine Hq.out.mono ?_; rintro e w3 ⟨rfl, hb3⟩
              have Hb3 := Lib.hid (HbA.out.trans (hb3.mono HbA.out.size))
              clear hb3 Hq
              go_wp2_with fail
              go_roundg (m - (k + 1))
              case measure => omega
              case rel => exact ⟨k + 1, by omega, rfl, by go_num, by rw [Hst.out], Hb3.out⟩
            · have d0 : decide (k < m) = false := by simpa using hkm
              have HF : Hid (grownLW sz (t.l.take k) = grownW sz t) := Lib.hid (by rw [List.take_of_length_le (by omega), Hgd.out])
              have Hb := Lib.hid (Hbx.out.trans (hbel.mono Hbx.out.size))
              clear hbel
              go_wp2_with fail
              go_ret
              exact ⟨ret_int HF.out, Hb.out⟩
        · have d1 : (t.k == 1) = false := by simp [hk]
          clear hk hvar
          go_enter Tryd.func57, Tryd.ntmps57
          go_wp2_with fail
          rw [HW.out]
          go_wp2_with fail
          clear z0 z1 z4
          go_loopg [5, 26] m (fun gh s i wr => ∃ k : Nat, k ≤ m ∧ gh = m - k ∧ i = .int .i64 k ∧ s = .int .i64 (grownLW sz (t.l.take k)) ∧ Below W.heap.size W wr)
          case atStart => exact ⟨0, Nat.zero_le _, rfl, rfl, by rw [List.take_zero, grownLW_nil], Below.refl _ _⟩
          case round =>
            obtain ⟨k, hk, rfl, rfl, rfl, hbel⟩ := hrel
            by_cases hkm : k < m
            · have d0 : decide (k < m) = true := by simpa using hkm
              have hk' : k < t.l.length := by omega
              obtain ⟨b, off, rfl, hb, hc⟩ := (HL.out.below hbel).at_ (by omega)
              obtain ⟨e0, e1, e2, e3, Ax, mx, cx, e4, hx⟩ := tyAt_iff.1 (hc k hk')
              have hst := grownLW_snoc sz (t.l.take k) t.l[k]
              rw [← List.take_succ_eq_append_getElem hk'] at hst
              have hn := HN.out k hk'
              have hmx := mayT_kid HM.out hk'
              obtain ⟨x, hxk⟩ : ∃ x, t.l[k] = x := ⟨_, rfl⟩
              rw [hxk] at e0 e1 e2 e3 hx hst hn hmx
              have hbA := hbel.alloc hbel.size (Obj.cells #[.int .u8 x.k, .int .i64 x.n, .int .i64 x.v, .int .u8 x.c, .slice Ax mx cx] 27)
              have hbB := below_box (w := wr) (Obj.cells #[.int .u8 x.k, .int .i64 x.n, .int .i64 x.v, .int .u8 x.c, .slice Ax mx cx] 27)
              have hq := Ih.out x hn hmx Ax mx cx _ (((hx.more hbel.size).below hbB).more hbB.size) ((HR.out.below hbA).more hbA.size)
              obtain ⟨r, hr⟩ : ∃ r, grownW sz x = r := ⟨_, rfl⟩
              obtain ⟨s, hs⟩ : ∃ s, grownLW sz (t.l.take k) = s := ⟨_, rfl⟩
              rw [hr] at hq hst
              rw [hs] at hst ⊢
              have Hq := Lib.hid hq
              have Hst := Lib.hid hst
              have HbA := Lib.hid hbA
              have k1 : (0 : Int) ≤ (k : Int) := by omega
              have k2 : (k : Int) < m := by omega
              clear hc hx hxk hq hst hbA hbB hr hs hn hmx hbel
              go_wp2_with fail
              refine Hq.out.mono ?_; rintro e w3 ⟨rfl, hb3⟩
              have Hb3 := Lib.hid (HbA.out.trans (hb3.mono HbA.out.size))
              clear hb3 Hq
              go_wp2_with fail
              go_roundg (m - (k + 1))
              case measure => omega
              case rel => exact ⟨k + 1, by omega, rfl, by go_num, by rw [Hst.out], Hb3.out⟩
            · have d0 : decide (k < m) = false := by simpa using hkm
              have HF : Hid (grownLW sz (t.l.take k) = grownW sz t) := Lib.hid (by rw [List.take_of_length_le (by omega), Hgd.out])
              have Hb := Lib.hid (Hbx.out.trans (hbel.mono Hbx.out.size))
              clear hbel
              go_wp2_with fail
              go_ret
              exact ⟨ret_int HF.out, Hb.out⟩
      exact hgo

end Go.Proofs.YtidamlkekgnhgaaDoor
