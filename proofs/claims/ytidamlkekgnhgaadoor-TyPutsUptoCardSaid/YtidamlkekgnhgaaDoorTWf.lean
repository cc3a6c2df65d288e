/- Texts of this claim, laid one behind the other: TwF, TwK, TwL. -/
import Derived.Test.YtidamlkekgnhgaaDoorTWd
import Derived.Test.YtidamlkekgnhgaaDoorTWe
import Derived.Test.YtidamlkekgnhgaaDoorRowH
import Derived.Lib.IndexLaws
import Derived.Test.YtidamlkekgnhgaaDoorTWb
/- The contracts of usufructref06.canon and Canon. -/
namespace Go.Proofs.YtidamlkekgnhgaaDoor
set_option linter.unusedVariables false
set_option linter.unusedSimpArgs false
open Go.RowKit
attribute [local go_sem ↓] Go.wp_at_zero Go.wp_at_succ

/-- what was seen lies in a block -/
def SnR (w : World) (g : Nat) (A1 : Option Addr) (n1 c1 : Nat) (l1 : List Int) (A2 : Option Addr) (n2 c2 : Nat) (l2 : List Int) : Prop :=
  g < w.heap.size ∧ w.cell? ⟨g, 0, none⟩ = some (.slice A1 n1 c1) ∧ w.cell? ⟨g, 1, none⟩ = some (.slice A2 n2 c2) ∧ RdI .i64 w w.heap.size A1 n1 c1 l1 ∧ RdI .i64 w w.heap.size A2 n2 c2 l2
theorem SnR.fresh {w w' : World} {g : Nat} {A1 : Option Addr} {n1 c1 : Nat} {l1 : List Int} {A2 : Option Addr} {n2 c2 : Nat} {l2 : List Int} (h : SnR w g A1 n1 c1 l1 A2 n2 c2 l2) (hb : Below w.heap.size w w') : SnR w' g A1 n1 c1 l1 A2 n2 c2 l2 :=
  ⟨Nat.lt_of_lt_of_le h.1 hb.size, (hb.cell (p := ⟨g, 0, none⟩) h.1).trans h.2.1, (hb.cell (p := ⟨g, 1, none⟩) h.1).trans h.2.2.1, RdI.fresh h.2.2.2.1 hb, RdI.fresh h.2.2.2.2 hb⟩
set_option maxRecDepth 100000 in
set_option maxHeartbeats 8000000 in
theorem refCanon_go (Kb g : Nat) (A1 : Option Addr) (n1 c1 : Nat) (l1 : List Int) (A2 : Option Addr) (n2 c2 : Nat) (l2 : List Int) (N : Nat) : ∀ (t : TyD), nodes t ≤ N → mayT t = true → ∀ (A : Option Addr) (m cp : Nat) (w : World), TysV w w.heap.size A m cp t.l → Kb ≤ w.heap.size → SnR w g A1 n1 c1 l1 A2 n2 c2 l2 →
    Calls Tryd.prog 66 #[.pointer (some ⟨g, 0, none⟩), .agg #[.int .u8 t.k, .int .i64 t.n, .int .i64 t.v, .int .u8 t.c, .slice A m cp]] w (RetK Kb (ren (idxN l1) (idxN l2) t) w) := by
  induction N with
  | zero => intro t hN; exact absurd hN (by rw [nodes_eq t]; omega)
  | succ N ih =>
    intro t hN hm A m cp w hl hK hs
    obtain ⟨i0, hi0, hz0, hz1, hz2⟩ := info_parts typeInfo
    obtain ⟨U, hU⟩ : ∃ U, ren (idxN l1) (idxN l2) = U := ⟨_, rfl⟩
    obtain ⟨W, h3⟩ := three_new t A m cp w
    have hlen := hl.len
    have m63 : m ≤ 9223372036854775807 := Nat.le_trans hl.2.1 hl.2.2.1
    have HN : Hid (∀ i (h : i < t.l.length), nodes t.l[i] ≤ N) := Lib.hid fun i h => by have := nodes_get h; omega
    have HM := Lib.hid hm
    have HL := Lib.hid hl
    have HS := Lib.hid hs
    have HW := Lib.hid h3.eq
    have Hb := Lib.hid h3.bel
    have Hz := Lib.hid h3.bt
    have Hy := Lib.hid h3.br
    have hsz : W.heap.size = w.heap.size + 1 + 1 := h3.size
    have hgw : g < w.heap.size := hs.1
    simp only [hU] at ih
    have Ih := Lib.hid ih
    have HU := Lib.hid hU
    have z0 := h3.bt.cell 0
    have z1 := h3.bt.cell 1
    have z2 := h3.bt.cell 2
    have z3 := h3.bt.cell 3
    have z4 := h3.bt.cell 4
    have hle2 : w.heap.size ≤ w.heap.size + 1 + 1 := by omega
    have hlt0 : w.heap.size < w.heap.size + 1 + 1 := by omega
    clear h3 hl hm hN ih hU hs
    by_cases h1 : t.k = 1
    · have d1 : (t.k == 1) = true := by simp [h1]
      have d7 : (t.k == 7) = false := by simp [h1]
      obtain ⟨r, hr⟩ : ∃ r, idxN l1 t.n = r := ⟨_, rfl⟩
      have Hr := Lib.hid hr
      have HR : Hid (ren (idxN l1) (idxN l2) t = .mk t.k r t.v t.c (t.l.map U)) := Lib.hid (by
        rw [ren_eq, if_pos h1, may_leaf HM.out (by omega), hr]
        have p := may_plain HM.out (by omega)
        exact ty_ext h1.symm rfl p.1.symm p.2.symm rfl)
      clear h1 hr
      have HOut : Hid (OutAt (W.alloc (Obj.cells #[.int .u8 t.k, .int .i64 t.n, .int .i64 t.v, .int .u8 t.c, .slice none 0 0] 27)) (w.heap.size + 1 + 1) (w.heap.size + 1 + 1 + 1) (fun b => Kb ≤ b ∧ b < w.heap.size + 1 + 1 + 1) t.k t.n t.v t.c [] none 0) := Lib.hid ⟨by rw [← hsz]; exact blk_new W _ _, OwnC.nil, ⟨by omega, by omega⟩, by omega⟩
      have Hbx := Lib.hid (below_box (w := W) (Obj.cells #[.int .u8 t.k, .int .i64 t.n, .int .i64 t.v, .int .u8 t.c, .slice none 0 0] 27))
      go_enter Tryd.func66, Tryd.ntmps66
      go_wp2_with fail
      rw [HW.out]
      obtain ⟨W7, hW7⟩ : ∃ W7, W.alloc (Obj.cells #[.int .u8 t.k, .int .i64 t.n, .int .i64 t.v, .int .u8 t.c, .slice none 0 0] 27) = W7 := ⟨_, rfl⟩
      rw [hW7] at HOut Hbx ⊢
      have hout := HOut.out
      have Hb7 := Lib.hid (Hb.out.trans (Hbx.out.mono Hb.out.size))
      have Hz7 := Lib.hid (Hz.out.below Hbx.out Hz.out.lt)
      have Hy7 := Lib.hid (Hy.out.below Hbx.out Hy.out.lt)
      clear hW7 HOut z0 z1 z2 z3 z4
      have hS7 := HS.out.fresh Hb7.out
      have s0 : W7.cell? ⟨g, 0, none⟩ = some (.slice A1 n1 c1) := hS7.2.1
      have xp : W7.cell? ⟨w.heap.size, 1, none⟩ = some (.int .i64 (t.n)) := Hz7.out.cell 1
      have hq := fun (W' : World) (h : Below W7.heap.size W7 W') => refAt_any A1 n1 c1 l1 (t.n) W' _ (hS7.2.2.2.1.below h) r Hr.out
      have Hq := Lib.hid hq
      have hgs := hS7.1
      have hgg : w.heap.size + 1 + 1 < W7.heap.size := hout.1.lt
      have hps : w.heap.size < W7.heap.size := by omega
      have hbd : Below W7.heap.size W7 W7.drew := Below.drew (Below.refl _ _)
      have Ho := Lib.hid hout
      clear hS7 hq hout
      refine wp_region_noPanic ?_
      refine wp_region_T (fun w' => w'.cell? ⟨g, 0, none⟩ = some (.slice A1 n1 c1) ∧ w'.cell? ⟨w.heap.size, 1, none⟩ = some (.int .i64 (t.n))) 7 (by kernel_rfl) ⟨s0, xp⟩ (fun hHeld => ?_)
      refine wpAnyT_take (i := 0) (v := ?_) rfl (by kernel_rfl) (by kernel_rfl) (by kernel_rfl) (by kernel_rfl) (fun _ _ _ h => h) (Or.inl ⟨by rfl, ?_⟩) (by assumption) ?_
      rotate_left
      · (intro w hSw; (try dsimp only at hSw); first | (go_simp; done) | (go_simp; with_reducible rfl))
      try simp only [Act.put, List.getElem_toArray, List.getElem_cons_zero, List.getElem_cons_succ, List.setIfInBounds_toArray, List.set_cons_zero, List.set_cons_succ]
      refine wpAnyT_take (i := 1) (v := ?_) rfl (by kernel_rfl) (by kernel_rfl) (by kernel_rfl) (by kernel_rfl) (fun _ _ _ h => h) (Or.inl ⟨by rfl, ?_⟩) (by assumption) ?_
      rotate_left
      · (intro w hSw; (try dsimp only at hSw); first | (go_simp; done) | (go_simp; with_reducible rfl))
      try simp only [Act.put, List.getElem_toArray, List.getElem_cons_zero, List.getElem_cons_succ, List.setIfInBounds_toArray, List.set_cons_zero, List.set_cons_succ]
      refine wpAnyT_take (i := 2) (v := ?_) rfl (by kernel_rfl) (by kernel_rfl) (by kernel_rfl) (by kernel_rfl) (fun _ _ _ h => h) (Or.inl ⟨by rfl, ?_⟩) (by assumption) ?_
      rotate_left
      · (intro w hSw; (try dsimp only at hSw); first | (go_simp; done) | (go_simp; with_reducible rfl))
      try simp only [Act.put, List.getElem_toArray, List.getElem_cons_zero, List.getElem_cons_succ, List.setIfInBounds_toArray, List.set_cons_zero, List.set_cons_succ]
      refine wpAnyT_take (i := 3) (v := ?_) rfl (by kernel_rfl) (by kernel_rfl) (by kernel_rfl) (by kernel_rfl) (fun _ _ _ h => h) (Or.inl ⟨by rfl, ?_⟩) (by assumption) ?_
      rotate_left
      · (intro w hSw; (try dsimp only at hSw); first | (go_simp; done) | (go_simp; with_reducible rfl))
      try simp only [Act.put, List.getElem_toArray, List.getElem_cons_zero, List.getElem_cons_succ, List.setIfInBounds_toArray, List.set_cons_zero, List.set_cons_succ]
      refine wpAnyT_take (i := 4) (v := ?_) rfl (by kernel_rfl) (by kernel_rfl) (by kernel_rfl) (by kernel_rfl) (fun _ _ _ h => h) (Or.inl ⟨by rfl, ?_⟩) (by assumption) ?_
      rotate_left
      · (intro w hSw; (try dsimp only at hSw); first | (go_simp; done) | (go_simp; with_reducible rfl))
      try simp only [Act.put, List.getElem_toArray, List.getElem_cons_zero, List.getElem_cons_succ, List.setIfInBounds_toArray, List.set_cons_zero, List.set_cons_succ]
      refine wpAnyT_take (i := 5) (v := ?_) rfl (by kernel_rfl) (by kernel_rfl) (by kernel_rfl) (by kernel_rfl) (fun _ _ _ h => h) (Or.inl ⟨by rfl, ?_⟩) (by assumption) ?_
      rotate_left
      · (intro w hSw; (try dsimp only at hSw); first | (go_simp; done) | (go_simp; with_reducible rfl))
      try simp only [Act.put, List.getElem_toArray, List.getElem_cons_zero, List.getElem_cons_succ, List.setIfInBounds_toArray, List.set_cons_zero, List.set_cons_succ]
      refine wpAnyT_step (i := 6) (by kernel_rfl) rfl (fun K hK => ?_)
      (go_simp; refine (Hq.out _ hbd).mono ?_; rintro e w8 ⟨rfl, hb8⟩; have hb1 : Below W7.heap.size W7 w8 := hbd.trans (hb8.mono hbd.size); have Hb8 := Lib.hid hb1; clear hb8 hb1)
      refine hK.out _ _ ⟨(Hb8.out.cell (p := ⟨g, 0, none⟩) hgs).trans s0, (Hb8.out.cell (p := ⟨w.heap.size, 1, none⟩) hps).trans xp⟩ ?_
      clear hK K
      try simp only [Act.put, List.getElem_toArray, List.getElem_cons_zero, List.getElem_cons_succ, List.setIfInBounds_toArray, List.set_cons_zero, List.set_cons_succ]
      have hk8 := Ho.out.1.below Hb8.out Ho.out.1.lt
      have f8 : w8.frozen? ⟨w.heap.size + 1 + 1, 1, none⟩ = false := hk8.frozen 1
      have y8 := hk8.cell 1
      have HK8 := Lib.hid hk8
      clear hk8
      refine wpAnyT_seq 7 (by omega) (by rfl) (by kernel_rfl) ?_
      simp only [List.drop_succ_cons, List.drop_zero]
      go_wp2_with fail
      refine NoPanic.normal ?_
      have hb8m : Below (w.heap.size + 1 + 1) W7 w8 := Hb8.out.mono (by omega)
      have hb9 := hb8m.setCell (p := ⟨w.heap.size + 1 + 1, 1, none⟩) (Nat.le_refl _) (.int .i64 r)
      clear hb8m
      have hz9 := Hz7.out.below hb9 (by omega)
      have hy9 := Hy7.out.below hb9 (by omega)
      have hb0 := Hb7.out.trans (hb9.mono (by omega))
      have ho9 := Ho.out
      have hout : OutAt (w8.setCell ⟨w.heap.size + 1 + 1, 1, none⟩ (.int .i64 r)) (w.heap.size + 1 + 1) (w.heap.size + 1 + 1 + 1) (fun b => Kb ≤ b ∧ b < w.heap.size + 1 + 1 + 1) t.k r t.v t.c [] none 0 := ⟨HK8.out.set_ 1 _, OwnC.nil, ho9.2.2⟩
      obtain ⟨WL, hWL⟩ : ∃ WL, w8.setCell ⟨w.heap.size + 1 + 1, 1, none⟩ (.int .i64 r) = WL := ⟨_, rfl⟩
      rw [hWL] at hout hb9 hz9 hy9 hb0 ⊢
      have z0 := hz9.cell 0
      replace Hz7 := Lib.hid hz9
      replace Hy7 := Lib.hid hy9
      replace Hb7 := Lib.hid hb0
      clear hWL hb9 hz9 hy9 hb0 HK8 f8 y8 ho9 Ho Hq s0 xp hgs hgg hps hbd Hb8
      go_wp2_with fail
      clear z0
      have HoutI : Hid (OutAt WL (w.heap.size + 1 + 1) (w.heap.size + 1 + 1 + 1) (fun b => Kb ≤ b ∧ b < w.heap.size + 1 + 1 + 1) t.k (r) (t.v) (t.c) [] none 0) := Lib.hid hout
      clear hout
      go_loopg [6] m (fun gh i wr => ∃ (k : Nat) (A5 : Option Addr) (c5 : Nat), k ≤ m ∧ gh = m - k ∧ i = .int .i64 k ∧ OutAt wr (w.heap.size + 1 + 1) (w.heap.size + 1 + 1 + 1) (fun b => Kb ≤ b ∧ b < w.heap.size + 1 + 1 + 1) t.k (r) (t.v) (t.c) ((t.l.take k).map U) A5 c5 ∧ Below (w.heap.size + 1 + 1) WL wr)
      case atStart => exact ⟨0, none, 0, Nat.zero_le _, rfl, rfl, HoutI.out, Below.refl _ _⟩
      case round =>
        obtain ⟨k, A5, c5, hk, rfl, rfl, hO, hbel⟩ := hrel
        have hW7r := Hb7.out.trans (hbel.mono hle2)
        have hzr := Hz7.out.below hbel hlt0
        have z4 := hzr.cell 4
        by_cases hkm : k < m
        · have d0 : decide (k < m) = true := by simpa using hkm
          have hk' : k < t.l.length := by omega
          have hlk : ((t.l.take k).map U).length = k := by rw [List.length_map, List.length_take]; omega
          obtain ⟨b, off, rfl, hb, hc⟩ := (HL.out.below hW7r).at_ (by omega)
          obtain ⟨e0, e1, e2, e3, Ax, mx, cx, e4, hx⟩ := tyAt_iff.1 (hc k hk')
          have hmx := mayT_kid HM.out hk'
          have hnx := HN.out k hk'
          have hst : (t.l.take (k + 1)).map U = (t.l.take k).map U ++ [U t.l[k]] := by rw [List.take_succ_eq_append_getElem hk', List.map_append]; rfl
          obtain ⟨x, hxk⟩ : ∃ x, t.l[k] = x := ⟨_, rfl⟩
          rw [hxk] at e0 e1 e2 e3 hx hmx hnx hst
          have hsr : w.heap.size + 1 + 1 + 1 ≤ wr.heap.size := by have := hO.1.lt; omega
          have h0w : Below w.heap.size w wr := hW7r
          have h0K : Below Kb w wr := hW7r.mono hK
          have hq := fun (W' : World) (h : Below wr.heap.size wr W') => Ih.out x hnx hmx Ax mx cx W' (((hx.more (by omega)).fresh h)) (by have := h.size; omega) ((HS.out.fresh h0w).fresh h)
          obtain ⟨u, hu⟩ : ∃ u, U x = u := ⟨_, rfl⟩
          rw [hu] at hst
          simp only [hu] at hq
          obtain ⟨X, hX⟩ : ∃ X, (t.l.take k).map U = X := ⟨_, rfl⟩
          rw [hX] at hO hlk hst
          have x4 := hO.1.cell 4
          have hbr : b < wr.heap.size := by omega
          have HO := Lib.hid hO
          have Hq := Lib.hid hq
          have Hu := Lib.hid hu
          have Hst := Lib.hid hst
          have Hlk := Lib.hid hlk
          have Hbel := Lib.hid hbel
          have Hzr := Lib.hid hzr
          have k1 : (0 : Int) ≤ (k : Int) := by omega
          have k2 : (k : Int) < m := by omega
          clear hO hq hu hst hX hbel hzr hx hmx hnx hc hxk hW7r h0w h0K
          rw [hlk] at x4
          clear hlk
          go_wp2_with fail
          have hgs : w.heap.size + 1 + 1 < wr.heap.size := HO.out.1.lt
          have hps : w.heap.size < wr.heap.size := by omega
          have hbd : Below wr.heap.size wr wr.drew := Below.drew (Below.refl _ _)
          refine wp_region_noPanic ?_
          refine wp_region_T (fun w' => w'.cell? ⟨w.heap.size + 1 + 1, 4, none⟩ = some (.slice A5 k c5) ∧ w'.cell? ⟨w.heap.size, 4, none⟩ = some (.slice (some ⟨b, off, none⟩) m cp) ∧ w'.cell? ⟨b, off + k * 5, none⟩ = some (.int .u8 x.k) ∧ w'.cell? ⟨b, off + k * 5 + 1, none⟩ = some (.int .i64 x.n) ∧ w'.cell? ⟨b, off + k * 5 + 2, none⟩ = some (.int .i64 x.v) ∧ w'.cell? ⟨b, off + k * 5 + 3, none⟩ = some (.int .u8 x.c) ∧ w'.cell? ⟨b, off + k * 5 + 4, none⟩ = some (.slice Ax mx cx)) 11 (by kernel_rfl) ⟨x4, z4, e0, e1, e2, e3, e4⟩ (fun hHeld => ?_)
          refine wpAnyT_take (i := 0) (v := ?_) rfl (by kernel_rfl) (by kernel_rfl) (by kernel_rfl) (by kernel_rfl) (fun _ _ _ h => h) (Or.inl ⟨by rfl, ?_⟩) (by assumption) ?_
          rotate_left
          · (intro w hSw; (try dsimp only at hSw); first | (go_simp; done) | (go_simp; with_reducible rfl))
          try simp only [Act.put, List.getElem_toArray, List.getElem_cons_zero, List.getElem_cons_succ, List.setIfInBounds_toArray, List.set_cons_zero, List.set_cons_succ]
          refine wpAnyT_take (i := 1) (v := ?_) rfl (by kernel_rfl) (by kernel_rfl) (by kernel_rfl) (by kernel_rfl) (fun _ _ _ h => h) (Or.inl ⟨by rfl, ?_⟩) (by assumption) ?_
          rotate_left
          · (intro w hSw; (try dsimp only at hSw); first | (go_simp; done) | (go_simp; with_reducible rfl))
          try simp only [Act.put, List.getElem_toArray, List.getElem_cons_zero, List.getElem_cons_succ, List.setIfInBounds_toArray, List.set_cons_zero, List.set_cons_succ]
          refine wpAnyT_take (i := 2) (v := ?_) rfl (by kernel_rfl) (by kernel_rfl) (by kernel_rfl) (by kernel_rfl) (fun _ _ _ h => h) (Or.inl ⟨by rfl, ?_⟩) (by assumption) ?_
          rotate_left
          · (intro w hSw; (try dsimp only at hSw); first | (go_simp; done) | (go_simp; with_reducible rfl))
          try simp only [Act.put, List.getElem_toArray, List.getElem_cons_zero, List.getElem_cons_succ, List.setIfInBounds_toArray, List.set_cons_zero, List.set_cons_succ]
          refine wpAnyT_take (i := 3) (v := ?_) rfl (by kernel_rfl) (by kernel_rfl) (by kernel_rfl) (by kernel_rfl) (fun _ _ _ h => h) (Or.inl ⟨by rfl, ?_⟩) (by assumption) ?_
          rotate_left
          · (intro w hSw; (try dsimp only at hSw); first | (go_simp; done) | (go_simp; with_reducible rfl))
          try simp only [Act.put, List.getElem_toArray, List.getElem_cons_zero, List.getElem_cons_succ, List.setIfInBounds_toArray, List.set_cons_zero, List.set_cons_succ]
          refine wpAnyT_take (i := 4) (v := ?_) rfl (by kernel_rfl) (by kernel_rfl) (by kernel_rfl) (by kernel_rfl) (fun _ _ _ h => h) (Or.inl ⟨by rfl, ?_⟩) (by assumption) ?_
          rotate_left
          · (intro w hSw; (try dsimp only at hSw); first | (go_simp; done) | (go_simp; with_reducible rfl))
          try simp only [Act.put, List.getElem_toArray, List.getElem_cons_zero, List.getElem_cons_succ, List.setIfInBounds_toArray, List.set_cons_zero, List.set_cons_succ]
          refine wpAnyT_take (i := 5) (v := ?_) rfl (by kernel_rfl) (by kernel_rfl) (by kernel_rfl) (by kernel_rfl) (fun _ _ _ h => h) (Or.inl ⟨by rfl, ?_⟩) (by assumption) ?_
          rotate_left
          · (intro w hSw; (try dsimp only at hSw); first | (go_simp; done) | (go_simp; with_reducible rfl))
          try simp only [Act.put, List.getElem_toArray, List.getElem_cons_zero, List.getElem_cons_succ, List.setIfInBounds_toArray, List.set_cons_zero, List.set_cons_succ]
          refine wpAnyT_take (i := 6) (v := ?_) rfl (by kernel_rfl) (by kernel_rfl) (by kernel_rfl) (by kernel_rfl) (fun _ _ _ h => h) (Or.inl ⟨by rfl, ?_⟩) (by assumption) ?_
          rotate_left
          · (intro w hSw; (try dsimp only at hSw); first | (go_simp; done) | (go_simp; with_reducible rfl))
          try simp only [Act.put, List.getElem_toArray, List.getElem_cons_zero, List.getElem_cons_succ, List.setIfInBounds_toArray, List.set_cons_zero, List.set_cons_succ]
          refine wpAnyT_take (i := 7) (v := ?_) rfl (by kernel_rfl) (by kernel_rfl) (by kernel_rfl) (by kernel_rfl) (fun _ _ _ h => h) (Or.inl ⟨by rfl, ?_⟩) (by assumption) ?_
          rotate_left
          · (intro w hSw; (try dsimp only at hSw); first | (go_simp; done) | (go_simp; with_reducible rfl))
          try simp only [Act.put, List.getElem_toArray, List.getElem_cons_zero, List.getElem_cons_succ, List.setIfInBounds_toArray, List.set_cons_zero, List.set_cons_succ]
          refine wpAnyT_step (i := 8) (by kernel_rfl) rfl (fun K hK => ?_)
          (go_simp; refine (Hq.out _ hbd).mono ?_; rintro e w1 ⟨A7, m7, c7, rfl, h7, hb7⟩; have hb1 : Below wr.heap.size wr w1 := hbd.trans (hb7.mono hbd.size); have Hb1 := Lib.hid hb1; have H7 := Lib.hid h7; have hs1 := hb1.size; clear h7 hb7 hb1)
          refine hK.out _ _ ⟨(Hb1.out.cell (p := ⟨w.heap.size + 1 + 1, 4, none⟩) hgs).trans x4, (Hb1.out.cell (p := ⟨w.heap.size, 4, none⟩) hps).trans z4, (Hb1.out.cell (p := ⟨b, off + k * 5, none⟩) hbr).trans e0, (Hb1.out.cell (p := ⟨b, off + k * 5 + 1, none⟩) hbr).trans e1, (Hb1.out.cell (p := ⟨b, off + k * 5 + 2, none⟩) hbr).trans e2, (Hb1.out.cell (p := ⟨b, off + k * 5 + 3, none⟩) hbr).trans e3, (Hb1.out.cell (p := ⟨b, off + k * 5 + 4, none⟩) hbr).trans e4⟩ ?_
          clear hK K
          try simp only [Act.put, List.getElem_toArray, List.getElem_cons_zero, List.getElem_cons_succ, List.setIfInBounds_toArray, List.set_cons_zero, List.set_cons_succ]
          have y4 := (Hb1.out.cell (p := ⟨w.heap.size + 1 + 1, 4, none⟩) hgs).trans x4
          have t4 := (Hb1.out.cell (p := ⟨w.heap.size, 4, none⟩) hps).trans z4
          have g0 := (Hb1.out.cell (p := ⟨b, off + k * 5, none⟩) hbr).trans e0
          have g1 := (Hb1.out.cell (p := ⟨b, off + k * 5 + 1, none⟩) hbr).trans e1
          have g2 := (Hb1.out.cell (p := ⟨b, off + k * 5 + 2, none⟩) hbr).trans e2
          have g3 := (Hb1.out.cell (p := ⟨b, off + k * 5 + 3, none⟩) hbr).trans e3
          have g4 := (Hb1.out.cell (p := ⟨b, off + k * 5 + 4, none⟩) hbr).trans e4
          have hgs1 : w.heap.size + 1 + 1 < w1.heap.size := by omega
          have hps1 : w.heap.size < w1.heap.size := by omega
          have hbr1 : b < w1.heap.size := by omega
          clear x4 z4 e0 e1 e2 e3 e4
          refine wpAnyT_step (i := 8 + 1) (by kernel_rfl) rfl (fun K hK => ?_)
          go_simp
          refine hK.out _ _ ⟨(World.cell?_alloc_lt _ _ ⟨w.heap.size + 1 + 1, 4, none⟩ hgs1).trans y4, (World.cell?_alloc_lt _ _ ⟨w.heap.size, 4, none⟩ hps1).trans t4, (World.cell?_alloc_lt _ _ ⟨b, off + k * 5, none⟩ hbr1).trans g0, (World.cell?_alloc_lt _ _ ⟨b, off + k * 5 + 1, none⟩ hbr1).trans g1, (World.cell?_alloc_lt _ _ ⟨b, off + k * 5 + 2, none⟩ hbr1).trans g2, (World.cell?_alloc_lt _ _ ⟨b, off + k * 5 + 3, none⟩ hbr1).trans g3, (World.cell?_alloc_lt _ _ ⟨b, off + k * 5 + 4, none⟩ hbr1).trans g4⟩ ?_
          clear hK K
          try simp only [Act.put, List.getElem_toArray, List.getElem_cons_zero, List.getElem_cons_succ, List.setIfInBounds_toArray, List.set_cons_zero, List.set_cons_succ]
          have hs0 := HO.out.2.1.lt
          have hcV : CelsV w1 (fun b => b < w1.heap.size ∧ some b ≠ (Value.slice A5 X.length c5).ownBlock ∧ ¬ (Kb ≤ b ∧ b < w.heap.size + 1 + 1 + 1)) (encT u) [.int .u8 u.k, .int .i64 u.n, .int .i64 u.v, .int .u8 u.c, .slice A7 m7 c7] := tyC (H7.out.mono fun q hq => by
            rcases hq with hq | hq
            · refine ⟨by omega, fun e => ?_, by omega⟩
              have := (hs0 q e.symm).1
              omega
            · have hq1 : wr.heap.size ≤ q := hq.1
              refine ⟨hq.2, fun e => ?_, by omega⟩
              have := (hs0 q e.symm).2
              omega)
          have hO1 := HO.out.2.1.beyond Hb1.out
          have hlk := Hlk.out
          rw [hlk] at hcV hO1
          have HcV := Lib.hid hcV
          have HO1 := Lib.hid hO1
          have HB1 := Lib.hid (Hbel.out.trans (Hb1.out.mono (by omega)))
          clear hcV hO1 hs0 H7
          refine wpAnyT_step (i := 8 + 2) (by kernel_rfl) rfl (fun K hK => ?_)
          (refine step_append_cel WL w1 (by rfl) (.tmp 52) (.tmp 60) 25 (by rfl) (w.heap.size + 1 + 1 + 1) 27 i0 _ 5 56 Tryd.underlying25 hi0 hz0 hz1 hz2 rfl (by omega) (fun b => Kb ≤ b ∧ b < w.heap.size + 1 + 1 + 1) (.slice A5 k c5) k _ (by rfl) [.int .u8 u.k, .int .i64 u.n, .int .i64 u.v, .int .u8 u.c, .slice A7 m7 c7] (encT u) rfl (by intro u hu; simp at hu; rcases hu with rfl | rfl | rfl | rfl | rfl <;> rfl) (by rfl) HO1.out HcV.out (by unfold maxLen; have := mayT_len HM.out; omega) (by have := mayT_len HM.out; omega) HB1.out (by omega) (by omega) ?_; intro A8 c8 w8 ho8 hbel8 hg8 hsz8 _; have hgb : some (w.heap.size + 1 + 1) ≠ (Value.slice A5 k c5).ownBlock := (fun e => by have := (HO1.out.lt _ e.symm).1; omega); have hpb : some w.heap.size ≠ (Value.slice A5 k c5).ownBlock := (fun e => by have := (HO1.out.lt _ e.symm).1; omega); have hbb : some b ≠ (Value.slice A5 k c5).ownBlock := (fun e => by have := (HO1.out.lt _ e.symm).1; omega); have hcg : ∀ j, w8.cell? ⟨w.heap.size + 1 + 1, j, none⟩ = w1.cell? ⟨w.heap.size + 1 + 1, j, none⟩ := (fun j => World.cell?_of_block (hg8.block (w.heap.size + 1 + 1) hgs1 hgb)); have hcp : ∀ j, w8.cell? ⟨w.heap.size, j, none⟩ = w1.cell? ⟨w.heap.size, j, none⟩ := (fun j => World.cell?_of_block (hg8.block w.heap.size hps1 hpb)); have hcb : ∀ j, w8.cell? ⟨b, j, none⟩ = w1.cell? ⟨b, j, none⟩ := (fun j => World.cell?_of_block (hg8.block b hbr1 hbb)))
          refine hK.out _ _ ⟨(hcg _).trans y4, (hcp _).trans t4, (hcb _).trans g0, (hcb _).trans g1, (hcb _).trans g2, (hcb _).trans g3, (hcb _).trans g4⟩ ?_
          clear hK K
          try simp only [Act.put, List.getElem_toArray, List.getElem_cons_zero, List.getElem_cons_succ, List.setIfInBounds_toArray, List.set_cons_zero, List.set_cons_succ]
          have q4 := (hcg 4).trans y4
          have qf : w8.frozen? ⟨w.heap.size + 1 + 1, 4, none⟩ = false := ((HO.out.1.below Hb1.out HO.out.1.lt).grown hg8 hgb).frozen 4
          have Hpush : Hid (OutAt (w8.setCell ⟨w.heap.size + 1 + 1, 4, none⟩ (.slice A8 (k + 1) c8)) (w.heap.size + 1 + 1) (w.heap.size + 1 + 1 + 1) (fun b => Kb ≤ b ∧ b < w.heap.size + 1 + 1 + 1) t.k (r) (t.v) (t.c) ((t.l.take (k + 1)).map U) A8 c8) := by
            have h := OutAt.push (HO.out.below Hb1.out) (A6 := A8) (c6 := c8) (w' := w8) u
            rw [Hlk.out] at h
            rw [Hst.out]
            exact Lib.hid (h ho8 hg8)
          have Hb8 := Lib.hid (hbel8.setCell (p := ⟨w.heap.size + 1 + 1, 4, none⟩) (Nat.le_refl _) (.slice A8 (k + 1) c8))
          clear hcg hcp hcb hgb hpb hbb ho8 hbel8 hg8 y4 t4 g0 g1 g2 g3 g4
          refine wpAnyT_seq 11 (by omega) (by rfl) (by kernel_rfl) ?_
          simp only [List.drop_succ_cons, List.drop_zero]
          go_wp2_with fail
          refine NoPanic.normal ?_
          clear q4 qf
          go_wp2_with fail
          go_roundg (m - (k + 1))
          case measure => omega
          case rel => exact ⟨k + 1, A8, c8, by omega, rfl, by go_num, Hpush.out, Hb8.out⟩
        · have d0 : decide (k < m) = false := by simpa using hkm
          have hall : t.l.take k = t.l := List.take_of_length_le (by omega)
          rw [hall] at hO
          have hT := OutAt.done (s := w.heap.size + 1 + 1 + 1) hO (Nat.le_refl _) (by omega)
          have hlm : (t.l.map U).length = m := by rw [List.length_map]; exact hlen
          have hk5 := hO.1
          rw [hlm] at hk5 hT
          have x0 := hk5.cell 0
          have x1 := hk5.cell 1
          have x2 := hk5.cell 2
          have x3 := hk5.cell 3
          have x4 := hk5.cell 4
          have hyr := Hy7.out.below hbel (by omega)
          have s0 := hyr.frozen 0
          have s1 := hyr.frozen 1
          have s2 := hyr.frozen 2
          have s3 := hyr.frozen 3
          have s4 := hyr.frozen 4
          have r0 := hyr.cell 0
          have r1 := hyr.cell 1
          have r2 := hyr.cell 2
          have r3 := hyr.cell 3
          have r4 := hyr.cell 4
          have hg1 : w.heap.size ≤ w.heap.size + 1 := by omega
          have Hyr := Lib.hid hyr
          have HT5 := Lib.hid hT
          have HbF := Lib.hid hW7r
          clear hO hk5 hT hyr hall hlm hbel hzr hW7r
          go_wp2_with fail
          have hyr := Hyr.out
          have hW7r := HbF.out
          have hs9 := ((((hyr.set_ 0 (.int .u8 (t.k))).set_ 1 (.int .i64 ((r)))).set_ 2 (.int .i64 (t.v))).set_ 3 (.int .u8 (t.c))).set_ 4 (.slice A5 m c5)
          have hb9 := ((((hW7r.setCell (p := ⟨w.heap.size + 1, 0, none⟩) hg1 (.int .u8 (t.k))).setCell (p := ⟨w.heap.size + 1, 1, none⟩) hg1 (.int .i64 ((r)))).setCell (p := ⟨w.heap.size + 1, 2, none⟩) hg1 (.int .i64 (t.v))).setCell (p := ⟨w.heap.size + 1, 3, none⟩) hg1 (.int .u8 (t.c))).setCell (p := ⟨w.heap.size + 1, 4, none⟩) hg1 (.slice A5 m c5)
          generalize hW9 : ((((((wr).setCell ⟨w.heap.size + 1, 0, none⟩ (.int .u8 (t.k))).setCell ⟨w.heap.size + 1, 1, none⟩ (.int .i64 ((r)))).setCell ⟨w.heap.size + 1, 2, none⟩ (.int .i64 (t.v))).setCell ⟨w.heap.size + 1, 3, none⟩ (.int .u8 (t.c))).setCell ⟨w.heap.size + 1, 4, none⟩ (.slice A5 m c5)) = W9 at hs9 hb9 ⊢
          replace hs9 : Blk W9 (w.heap.size + 1) 27 #[.int .u8 (t.k), .int .i64 ((r)), .int .i64 (t.v), .int .u8 (t.c), .slice A5 m c5] := hs9
          have d0' : W9.cell? ⟨w.heap.size + 1, 0, none⟩ = some (.int .u8 (t.k)) := hs9.cell 0
          have d1' : W9.cell? ⟨w.heap.size + 1, 1, none⟩ = some (.int .i64 ((r))) := hs9.cell 1
          have d2' : W9.cell? ⟨w.heap.size + 1, 2, none⟩ = some (.int .i64 (t.v)) := hs9.cell 2
          have d3' : W9.cell? ⟨w.heap.size + 1, 3, none⟩ = some (.int .u8 (t.c)) := hs9.cell 3
          have d4' : W9.cell? ⟨w.heap.size + 1, 4, none⟩ = some (.slice A5 m c5) := hs9.cell 4
          have hT9 : TysS W9 (fun b => b < Kb ∨ (w.heap.size ≤ b ∧ b < W9.heap.size)) A5 m c5 (t.l.map U) := by
            rw [← hW9]
            refine HT5.out.keep (fun b hb => ?_) fun p hp => ?_
            · rcases hb with hb | hb
              · exact .inl hb
              · exact .inr ⟨by omega, by simpa using hb.2⟩
            · have c1 : ∀ (W' : World) (o : Nat) (v : Value), (W'.setCell ⟨w.heap.size + 1, o, none⟩ v).cell? p = W'.cell? p := fun W' o v => World.cell?_setCell_other _ _ _ _ (fun e => by
                have e1 : w.heap.size + 1 = p.block := by rw [← e]
                rcases hp with hp | hp <;> omega)
              rw [c1, c1, c1, c1, c1]
          exact bodyPost_ret (v := .agg #[.int .u8 t.k, .int .i64 (r), .int .i64 (t.v), .int .u8 (t.c), .slice A5 m c5]) (by simp [results, Tryd.results66, go_sem, d0', d1', d2', d3', d4']) rfl (by rw [HR.out]; exact ⟨A5, m, c5, rfl, hT9, hb9⟩)
    · have d1 : (t.k == 1) = false := by simpa using h1
      by_cases h7 : t.k = 7
      · have d7 : (t.k == 7) = true := by simp [h7]
        by_cases hc : t.c = 0
        · have dc : (t.c == 0) = true := by simp [hc]
          obtain ⟨r, hr⟩ : ∃ r, idxN l2 t.v = r := ⟨_, rfl⟩
          have Hr := Lib.hid hr
          have HR : Hid (ren (idxN l1) (idxN l2) t = .mk t.k t.n r t.c (t.l.map U)) := Lib.hid (by
            rw [ren_eq, if_neg h1, if_pos ⟨h7, hc⟩, if_pos ⟨h7, hc⟩, hr, HU.out, hc])
          clear h1 h7 hc hr
          have HOut : Hid (OutAt (W.alloc (Obj.cells #[.int .u8 t.k, .int .i64 t.n, .int .i64 t.v, .int .u8 t.c, .slice none 0 0] 27)) (w.heap.size + 1 + 1) (w.heap.size + 1 + 1 + 1) (fun b => Kb ≤ b ∧ b < w.heap.size + 1 + 1 + 1) t.k t.n t.v t.c [] none 0) := Lib.hid ⟨by rw [← hsz]; exact blk_new W _ _, OwnC.nil, ⟨by omega, by omega⟩, by omega⟩
          have Hbx := Lib.hid (below_box (w := W) (Obj.cells #[.int .u8 t.k, .int .i64 t.n, .int .i64 t.v, .int .u8 t.c, .slice none 0 0] 27))
          go_enter Tryd.func66, Tryd.ntmps66
          go_wp2_with fail
          rw [HW.out]
          obtain ⟨W7, hW7⟩ : ∃ W7, W.alloc (Obj.cells #[.int .u8 t.k, .int .i64 t.n, .int .i64 t.v, .int .u8 t.c, .slice none 0 0] 27) = W7 := ⟨_, rfl⟩
          rw [hW7] at HOut Hbx ⊢
          have hout := HOut.out
          have Hb7 := Lib.hid (Hb.out.trans (Hbx.out.mono Hb.out.size))
          have Hz7 := Lib.hid (Hz.out.below Hbx.out Hz.out.lt)
          have Hy7 := Lib.hid (Hy.out.below Hbx.out Hy.out.lt)
          clear hW7 HOut z0 z1 z2 z3 z4
          have hS7 := HS.out.fresh Hb7.out
          have s0 : W7.cell? ⟨g, 1, none⟩ = some (.slice A2 n2 c2) := hS7.2.2.1
          have xp : W7.cell? ⟨w.heap.size, 2, none⟩ = some (.int .i64 (t.v)) := Hz7.out.cell 2
          have hq := fun (W' : World) (h : Below W7.heap.size W7 W') => refAt_any A2 n2 c2 l2 (t.v) W' _ (hS7.2.2.2.2.below h) r Hr.out
          have Hq := Lib.hid hq
          have hgs := hS7.1
          have hgg : w.heap.size + 1 + 1 < W7.heap.size := hout.1.lt
          have hps : w.heap.size < W7.heap.size := by omega
          have hbd : Below W7.heap.size W7 W7.drew := Below.drew (Below.refl _ _)
          have Ho := Lib.hid hout
          clear hS7 hq hout
          refine wp_region_noPanic ?_
          refine wp_region_T (fun w' => w'.cell? ⟨g, 1, none⟩ = some (.slice A2 n2 c2) ∧ w'.cell? ⟨w.heap.size, 2, none⟩ = some (.int .i64 (t.v))) 8 (by kernel_rfl) ⟨s0, xp⟩ (fun hHeld => ?_)
          refine wpAnyT_take (i := 0) (v := ?_) rfl (by kernel_rfl) (by kernel_rfl) (by kernel_rfl) (by kernel_rfl) (fun _ _ _ h => h) (Or.inl ⟨by rfl, ?_⟩) (by assumption) ?_
          rotate_left
          · (intro w hSw; (try dsimp only at hSw); first | (go_simp; done) | (go_simp; with_reducible rfl))
          try simp only [Act.put, List.getElem_toArray, List.getElem_cons_zero, List.getElem_cons_succ, List.setIfInBounds_toArray, List.set_cons_zero, List.set_cons_succ]
          refine wpAnyT_take (i := 1) (v := ?_) rfl (by kernel_rfl) (by kernel_rfl) (by kernel_rfl) (by kernel_rfl) (fun _ _ _ h => h) (Or.inl ⟨by rfl, ?_⟩) (by assumption) ?_
          rotate_left
          · (intro w hSw; (try dsimp only at hSw); first | (go_simp; done) | (go_simp; with_reducible rfl))
          try simp only [Act.put, List.getElem_toArray, List.getElem_cons_zero, List.getElem_cons_succ, List.setIfInBounds_toArray, List.set_cons_zero, List.set_cons_succ]
          refine wpAnyT_take (i := 2) (v := ?_) rfl (by kernel_rfl) (by kernel_rfl) (by kernel_rfl) (by kernel_rfl) (fun _ _ _ h => h) (Or.inl ⟨by rfl, ?_⟩) (by assumption) ?_
          rotate_left
          · (intro w hSw; (try dsimp only at hSw); first | (go_simp; done) | (go_simp; with_reducible rfl))
          try simp only [Act.put, List.getElem_toArray, List.getElem_cons_zero, List.getElem_cons_succ, List.setIfInBounds_toArray, List.set_cons_zero, List.set_cons_succ]
          refine wpAnyT_take (i := 3) (v := ?_) rfl (by kernel_rfl) (by kernel_rfl) (by kernel_rfl) (by kernel_rfl) (fun _ _ _ h => h) (Or.inl ⟨by rfl, ?_⟩) (by assumption) ?_
          rotate_left
          · (intro w hSw; (try dsimp only at hSw); first | (go_simp; done) | (go_simp; with_reducible rfl))
          try simp only [Act.put, List.getElem_toArray, List.getElem_cons_zero, List.getElem_cons_succ, List.setIfInBounds_toArray, List.set_cons_zero, List.set_cons_succ]
          refine wpAnyT_take (i := 4) (v := ?_) rfl (by kernel_rfl) (by kernel_rfl) (by kernel_rfl) (by kernel_rfl) (fun _ _ _ h => h) (Or.inl ⟨by rfl, ?_⟩) (by assumption) ?_
          rotate_left
          · (intro w hSw; (try dsimp only at hSw); first | (go_simp; done) | (go_simp; with_reducible rfl))
          try simp only [Act.put, List.getElem_toArray, List.getElem_cons_zero, List.getElem_cons_succ, List.setIfInBounds_toArray, List.set_cons_zero, List.set_cons_succ]
          refine wpAnyT_take (i := 5) (v := ?_) rfl (by kernel_rfl) (by kernel_rfl) (by kernel_rfl) (by kernel_rfl) (fun _ _ _ h => h) (Or.inl ⟨by rfl, ?_⟩) (by assumption) ?_
          rotate_left
          · (intro w hSw; (try dsimp only at hSw); first | (go_simp; done) | (go_simp; with_reducible rfl))
          try simp only [Act.put, List.getElem_toArray, List.getElem_cons_zero, List.getElem_cons_succ, List.setIfInBounds_toArray, List.set_cons_zero, List.set_cons_succ]
          refine wpAnyT_take (i := 6) (v := ?_) rfl (by kernel_rfl) (by kernel_rfl) (by kernel_rfl) (by kernel_rfl) (fun _ _ _ h => h) (Or.inl ⟨by rfl, ?_⟩) (by assumption) ?_
          rotate_left
          · (intro w hSw; (try dsimp only at hSw); first | (go_simp; done) | (go_simp; with_reducible rfl))
          try simp only [Act.put, List.getElem_toArray, List.getElem_cons_zero, List.getElem_cons_succ, List.setIfInBounds_toArray, List.set_cons_zero, List.set_cons_succ]
          refine wpAnyT_step (i := 7) (by kernel_rfl) rfl (fun K hK => ?_)
          (go_simp; refine (Hq.out _ hbd).mono ?_; rintro e w8 ⟨rfl, hb8⟩; have hb1 : Below W7.heap.size W7 w8 := hbd.trans (hb8.mono hbd.size); have Hb8 := Lib.hid hb1; clear hb8 hb1)
          refine hK.out _ _ ⟨(Hb8.out.cell (p := ⟨g, 1, none⟩) hgs).trans s0, (Hb8.out.cell (p := ⟨w.heap.size, 2, none⟩) hps).trans xp⟩ ?_
          clear hK K
          try simp only [Act.put, List.getElem_toArray, List.getElem_cons_zero, List.getElem_cons_succ, List.setIfInBounds_toArray, List.set_cons_zero, List.set_cons_succ]
          have hk8 := Ho.out.1.below Hb8.out Ho.out.1.lt
          have f8 : w8.frozen? ⟨w.heap.size + 1 + 1, 2, none⟩ = false := hk8.frozen 2
          have y8 := hk8.cell 2
          have HK8 := Lib.hid hk8
          clear hk8
          refine wpAnyT_seq 8 (by omega) (by rfl) (by kernel_rfl) ?_
          simp only [List.drop_succ_cons, List.drop_zero]
          go_wp2_with fail
          refine NoPanic.normal ?_
          have hb8m : Below (w.heap.size + 1 + 1) W7 w8 := Hb8.out.mono (by omega)
          have hb9 := hb8m.setCell (p := ⟨w.heap.size + 1 + 1, 2, none⟩) (Nat.le_refl _) (.int .i64 r)
          clear hb8m
          have hz9 := Hz7.out.below hb9 (by omega)
          have hy9 := Hy7.out.below hb9 (by omega)
          have hb0 := Hb7.out.trans (hb9.mono (by omega))
          have ho9 := Ho.out
          have hout : OutAt (w8.setCell ⟨w.heap.size + 1 + 1, 2, none⟩ (.int .i64 r)) (w.heap.size + 1 + 1) (w.heap.size + 1 + 1 + 1) (fun b => Kb ≤ b ∧ b < w.heap.size + 1 + 1 + 1) t.k t.n r t.c [] none 0 := ⟨HK8.out.set_ 2 _, OwnC.nil, ho9.2.2⟩
          obtain ⟨WL, hWL⟩ : ∃ WL, w8.setCell ⟨w.heap.size + 1 + 1, 2, none⟩ (.int .i64 r) = WL := ⟨_, rfl⟩
          rw [hWL] at hout hb9 hz9 hy9 hb0 ⊢
          replace Hz7 := Lib.hid hz9
          replace Hy7 := Lib.hid hy9
          replace Hb7 := Lib.hid hb0
          clear hWL hb9 hz9 hy9 hb0 HK8 f8 y8 ho9 Ho Hq s0 xp hgs hgg hps hbd Hb8
          go_wp2_with fail
          have HoutI : Hid (OutAt WL (w.heap.size + 1 + 1) (w.heap.size + 1 + 1 + 1) (fun b => Kb ≤ b ∧ b < w.heap.size + 1 + 1 + 1) t.k (t.n) (r) (t.c) [] none 0) := Lib.hid hout
          clear hout
          go_loopg [6] m (fun gh i wr => ∃ (k : Nat) (A5 : Option Addr) (c5 : Nat), k ≤ m ∧ gh = m - k ∧ i = .int .i64 k ∧ OutAt wr (w.heap.size + 1 + 1) (w.heap.size + 1 + 1 + 1) (fun b => Kb ≤ b ∧ b < w.heap.size + 1 + 1 + 1) t.k (t.n) (r) (t.c) ((t.l.take k).map U) A5 c5 ∧ Below (w.heap.size + 1 + 1) WL wr)
          case atStart => exact ⟨0, none, 0, Nat.zero_le _, rfl, rfl, HoutI.out, Below.refl _ _⟩
          case round =>
            obtain ⟨k, A5, c5, hk, rfl, rfl, hO, hbel⟩ := hrel
            have hW7r := Hb7.out.trans (hbel.mono hle2)
            have hzr := Hz7.out.below hbel hlt0
            have z4 := hzr.cell 4
            by_cases hkm : k < m
            · have d0 : decide (k < m) = true := by simpa using hkm
              have hk' : k < t.l.length := by omega
              have hlk : ((t.l.take k).map U).length = k := by rw [List.length_map, List.length_take]; omega
              obtain ⟨b, off, rfl, hb, hc⟩ := (HL.out.below hW7r).at_ (by omega)
              obtain ⟨e0, e1, e2, e3, Ax, mx, cx, e4, hx⟩ := tyAt_iff.1 (hc k hk')
              have hmx := mayT_kid HM.out hk'
              have hnx := HN.out k hk'
              have hst : (t.l.take (k + 1)).map U = (t.l.take k).map U ++ [U t.l[k]] := by rw [List.take_succ_eq_append_getElem hk', List.map_append]; rfl
              obtain ⟨x, hxk⟩ : ∃ x, t.l[k] = x := ⟨_, rfl⟩
              rw [hxk] at e0 e1 e2 e3 hx hmx hnx hst
              have hsr : w.heap.size + 1 + 1 + 1 ≤ wr.heap.size := by have := hO.1.lt; omega
              have h0w : Below w.heap.size w wr := hW7r
              have h0K : Below Kb w wr := hW7r.mono hK
              have hq := fun (W' : World) (h : Below wr.heap.size wr W') => Ih.out x hnx hmx Ax mx cx W' (((hx.more (by omega)).fresh h)) (by have := h.size; omega) ((HS.out.fresh h0w).fresh h)
              obtain ⟨u, hu⟩ : ∃ u, U x = u := ⟨_, rfl⟩
              rw [hu] at hst
              simp only [hu] at hq
              obtain ⟨X, hX⟩ : ∃ X, (t.l.take k).map U = X := ⟨_, rfl⟩
              rw [hX] at hO hlk hst
              have x4 := hO.1.cell 4
              have hbr : b < wr.heap.size := by omega
              have HO := Lib.hid hO
              have Hq := Lib.hid hq
              have Hu := Lib.hid hu
              have Hst := Lib.hid hst
              have Hlk := Lib.hid hlk
              have Hbel := Lib.hid hbel
              have Hzr := Lib.hid hzr
              have k1 : (0 : Int) ≤ (k : Int) := by omega
              have k2 : (k : Int) < m := by omega
              clear hO hq hu hst hX hbel hzr hx hmx hnx hc hxk hW7r h0w h0K
              rw [hlk] at x4
              clear hlk
              go_wp2_with fail
              have hgs : w.heap.size + 1 + 1 < wr.heap.size := HO.out.1.lt
              have hps : w.heap.size < wr.heap.size := by omega
              have hbd : Below wr.heap.size wr wr.drew := Below.drew (Below.refl _ _)
              refine wp_region_noPanic ?_
              refine wp_region_T (fun w' => w'.cell? ⟨w.heap.size + 1 + 1, 4, none⟩ = some (.slice A5 k c5) ∧ w'.cell? ⟨w.heap.size, 4, none⟩ = some (.slice (some ⟨b, off, none⟩) m cp) ∧ w'.cell? ⟨b, off + k * 5, none⟩ = some (.int .u8 x.k) ∧ w'.cell? ⟨b, off + k * 5 + 1, none⟩ = some (.int .i64 x.n) ∧ w'.cell? ⟨b, off + k * 5 + 2, none⟩ = some (.int .i64 x.v) ∧ w'.cell? ⟨b, off + k * 5 + 3, none⟩ = some (.int .u8 x.c) ∧ w'.cell? ⟨b, off + k * 5 + 4, none⟩ = some (.slice Ax mx cx)) 11 (by kernel_rfl) ⟨x4, z4, e0, e1, e2, e3, e4⟩ (fun hHeld => ?_)
              refine wpAnyT_take (i := 0) (v := ?_) rfl (by kernel_rfl) (by kernel_rfl) (by kernel_rfl) (by kernel_rfl) (fun _ _ _ h => h) (Or.inl ⟨by rfl, ?_⟩) (by assumption) ?_
              rotate_left
              · (intro w hSw; (try dsimp only at hSw); first | (go_simp; done) | (go_simp; with_reducible rfl))
              try simp only [Act.put, List.getElem_toArray, List.getElem_cons_zero, List.getElem_cons_succ, List.setIfInBounds_toArray, List.set_cons_zero, List.set_cons_succ]
              refine wpAnyT_take (i := 1) (v := ?_) rfl (by kernel_rfl) (by kernel_rfl) (by kernel_rfl) (by kernel_rfl) (fun _ _ _ h => h) (Or.inl ⟨by rfl, ?_⟩) (by assumption) ?_
              rotate_left
              · (intro w hSw; (try dsimp only at hSw); first | (go_simp; done) | (go_simp; with_reducible rfl))
              try simp only [Act.put, List.getElem_toArray, List.getElem_cons_zero, List.getElem_cons_succ, List.setIfInBounds_toArray, List.set_cons_zero, List.set_cons_succ]
              refine wpAnyT_take (i := 2) (v := ?_) rfl (by kernel_rfl) (by kernel_rfl) (by kernel_rfl) (by kernel_rfl) (fun _ _ _ h => h) (Or.inl ⟨by rfl, ?_⟩) (by assumption) ?_
              rotate_left
              · (intro w hSw; (try dsimp only at hSw); first | (go_simp; done) | (go_simp; with_reducible rfl))
              try simp only [Act.put, List.getElem_toArray, List.getElem_cons_zero, List.getElem_cons_succ, List.setIfInBounds_toArray, List.set_cons_zero, List.set_cons_succ]
              refine wpAnyT_take (i := 3) (v := ?_) rfl (by kernel_rfl) (by kernel_rfl) (by kernel_rfl) (by kernel_rfl) (fun _ _ _ h => h) (Or.inl ⟨by rfl, ?_⟩) (by assumption) ?_
              rotate_left
              · (intro w hSw; (try dsimp only at hSw); first | (go_simp; done) | (go_simp; with_reducible rfl))
              try simp only [Act.put, List.getElem_toArray, List.getElem_cons_zero, List.getElem_cons_succ, List.setIfInBounds_toArray, List.set_cons_zero, List.set_cons_succ]
              refine wpAnyT_take (i := 4) (v := ?_) rfl (by kernel_rfl) (by kernel_rfl) (by kernel_rfl) (by kernel_rfl) (fun _ _ _ h => h) (Or.inl ⟨by rfl, ?_⟩) (by assumption) ?_
              rotate_left
              · (intro w hSw; (try dsimp only at hSw); first | (go_simp; done) | (go_simp; with_reducible rfl))
              try simp only [Act.put, List.getElem_toArray, List.getElem_cons_zero, List.getElem_cons_succ, List.setIfInBounds_toArray, List.set_cons_zero, List.set_cons_succ]
              refine wpAnyT_take (i := 5) (v := ?_) rfl (by kernel_rfl) (by kernel_rfl) (by kernel_rfl) (by kernel_rfl) (fun _ _ _ h => h) (Or.inl ⟨by rfl, ?_⟩) (by assumption) ?_
              rotate_left
              · (intro w hSw; (try dsimp only at hSw); first | (go_simp; done) | (go_simp; with_reducible rfl))
              try simp only [Act.put, List.getElem_toArray, List.getElem_cons_zero, List.getElem_cons_succ, List.setIfInBounds_toArray, List.set_cons_zero, List.set_cons_succ]
              refine wpAnyT_take (i := 6) (v := ?_) rfl (by kernel_rfl) (by kernel_rfl) (by kernel_rfl) (by kernel_rfl) (fun _ _ _ h => h) (Or.inl ⟨by rfl, ?_⟩) (by assumption) ?_
              rotate_left
              · (intro w hSw; (try dsimp only at hSw); first | (go_simp; done) | (go_simp; with_reducible rfl))
              try simp only [Act.put, List.getElem_toArray, List.getElem_cons_zero, List.getElem_cons_succ, List.setIfInBounds_toArray, List.set_cons_zero, List.set_cons_succ]
              refine wpAnyT_take (i := 7) (v := ?_) rfl (by kernel_rfl) (by kernel_rfl) (by kernel_rfl) (by kernel_rfl) (fun _ _ _ h => h) (Or.inl ⟨by rfl, ?_⟩) (by assumption) ?_
              rotate_left
              · (intro w hSw; (try dsimp only at hSw); first | (go_simp; done) | (go_simp; with_reducible rfl))
              try simp only [Act.put, List.getElem_toArray, List.getElem_cons_zero, List.getElem_cons_succ, List.setIfInBounds_toArray, List.set_cons_zero, List.set_cons_succ]
              refine wpAnyT_step (i := 8) (by kernel_rfl) rfl (fun K hK => ?_)
              (go_simp; refine (Hq.out _ hbd).mono ?_; rintro e w1 ⟨A7, m7, c7, rfl, h7, hb7⟩; have hb1 : Below wr.heap.size wr w1 := hbd.trans (hb7.mono hbd.size); have Hb1 := Lib.hid hb1; have H7 := Lib.hid h7; have hs1 := hb1.size; clear h7 hb7 hb1)
              refine hK.out _ _ ⟨(Hb1.out.cell (p := ⟨w.heap.size + 1 + 1, 4, none⟩) hgs).trans x4, (Hb1.out.cell (p := ⟨w.heap.size, 4, none⟩) hps).trans z4, (Hb1.out.cell (p := ⟨b, off + k * 5, none⟩) hbr).trans e0, (Hb1.out.cell (p := ⟨b, off + k * 5 + 1, none⟩) hbr).trans e1, (Hb1.out.cell (p := ⟨b, off + k * 5 + 2, none⟩) hbr).trans e2, (Hb1.out.cell (p := ⟨b, off + k * 5 + 3, none⟩) hbr).trans e3, (Hb1.out.cell (p := ⟨b, off + k * 5 + 4, none⟩) hbr).trans e4⟩ ?_
              clear hK K
              try simp only [Act.put, List.getElem_toArray, List.getElem_cons_zero, List.getElem_cons_succ, List.setIfInBounds_toArray, List.set_cons_zero, List.set_cons_succ]
              have y4 := (Hb1.out.cell (p := ⟨w.heap.size + 1 + 1, 4, none⟩) hgs).trans x4
              have t4 := (Hb1.out.cell (p := ⟨w.heap.size, 4, none⟩) hps).trans z4
              have g0 := (Hb1.out.cell (p := ⟨b, off + k * 5, none⟩) hbr).trans e0
              have g1 := (Hb1.out.cell (p := ⟨b, off + k * 5 + 1, none⟩) hbr).trans e1
              have g2 := (Hb1.out.cell (p := ⟨b, off + k * 5 + 2, none⟩) hbr).trans e2
              have g3 := (Hb1.out.cell (p := ⟨b, off + k * 5 + 3, none⟩) hbr).trans e3
              have g4 := (Hb1.out.cell (p := ⟨b, off + k * 5 + 4, none⟩) hbr).trans e4
              have hgs1 : w.heap.size + 1 + 1 < w1.heap.size := by omega
              have hps1 : w.heap.size < w1.heap.size := by omega
              have hbr1 : b < w1.heap.size := by omega
              clear x4 z4 e0 e1 e2 e3 e4
              refine wpAnyT_step (i := 8 + 1) (by kernel_rfl) rfl (fun K hK => ?_)
              go_simp
              refine hK.out _ _ ⟨(World.cell?_alloc_lt _ _ ⟨w.heap.size + 1 + 1, 4, none⟩ hgs1).trans y4, (World.cell?_alloc_lt _ _ ⟨w.heap.size, 4, none⟩ hps1).trans t4, (World.cell?_alloc_lt _ _ ⟨b, off + k * 5, none⟩ hbr1).trans g0, (World.cell?_alloc_lt _ _ ⟨b, off + k * 5 + 1, none⟩ hbr1).trans g1, (World.cell?_alloc_lt _ _ ⟨b, off + k * 5 + 2, none⟩ hbr1).trans g2, (World.cell?_alloc_lt _ _ ⟨b, off + k * 5 + 3, none⟩ hbr1).trans g3, (World.cell?_alloc_lt _ _ ⟨b, off + k * 5 + 4, none⟩ hbr1).trans g4⟩ ?_
              clear hK K
              try simp only [Act.put, List.getElem_toArray, List.getElem_cons_zero, List.getElem_cons_succ, List.setIfInBounds_toArray, List.set_cons_zero, List.set_cons_succ]
              have hs0 := HO.out.2.1.lt
              have hcV : CelsV w1 (fun b => b < w1.heap.size ∧ some b ≠ (Value.slice A5 X.length c5).ownBlock ∧ ¬ (Kb ≤ b ∧ b < w.heap.size + 1 + 1 + 1)) (encT u) [.int .u8 u.k, .int .i64 u.n, .int .i64 u.v, .int .u8 u.c, .slice A7 m7 c7] := tyC (H7.out.mono fun q hq => by
                rcases hq with hq | hq
                · refine ⟨by omega, fun e => ?_, by omega⟩
                  have := (hs0 q e.symm).1
                  omega
                · have hq1 : wr.heap.size ≤ q := hq.1
                  refine ⟨hq.2, fun e => ?_, by omega⟩
                  have := (hs0 q e.symm).2
                  omega)
              have hO1 := HO.out.2.1.beyond Hb1.out
              have hlk := Hlk.out
              rw [hlk] at hcV hO1
              have HcV := Lib.hid hcV
              have HO1 := Lib.hid hO1
              have HB1 := Lib.hid (Hbel.out.trans (Hb1.out.mono (by omega)))
              clear hcV hO1 hs0 H7
              refine wpAnyT_step (i := 8 + 2) (by kernel_rfl) rfl (fun K hK => ?_)
              (refine step_append_cel WL w1 (by rfl) (.tmp 52) (.tmp 60) 25 (by rfl) (w.heap.size + 1 + 1 + 1) 27 i0 _ 5 56 Tryd.underlying25 hi0 hz0 hz1 hz2 rfl (by omega) (fun b => Kb ≤ b ∧ b < w.heap.size + 1 + 1 + 1) (.slice A5 k c5) k _ (by rfl) [.int .u8 u.k, .int .i64 u.n, .int .i64 u.v, .int .u8 u.c, .slice A7 m7 c7] (encT u) rfl (by intro u hu; simp at hu; rcases hu with rfl | rfl | rfl | rfl | rfl <;> rfl) (by rfl) HO1.out HcV.out (by unfold maxLen; have := mayT_len HM.out; omega) (by have := mayT_len HM.out; omega) HB1.out (by omega) (by omega) ?_; intro A8 c8 w8 ho8 hbel8 hg8 hsz8 _; have hgb : some (w.heap.size + 1 + 1) ≠ (Value.slice A5 k c5).ownBlock := (fun e => by have := (HO1.out.lt _ e.symm).1; omega); have hpb : some w.heap.size ≠ (Value.slice A5 k c5).ownBlock := (fun e => by have := (HO1.out.lt _ e.symm).1; omega); have hbb : some b ≠ (Value.slice A5 k c5).ownBlock := (fun e => by have := (HO1.out.lt _ e.symm).1; omega); have hcg : ∀ j, w8.cell? ⟨w.heap.size + 1 + 1, j, none⟩ = w1.cell? ⟨w.heap.size + 1 + 1, j, none⟩ := (fun j => World.cell?_of_block (hg8.block (w.heap.size + 1 + 1) hgs1 hgb)); have hcp : ∀ j, w8.cell? ⟨w.heap.size, j, none⟩ = w1.cell? ⟨w.heap.size, j, none⟩ := (fun j => World.cell?_of_block (hg8.block w.heap.size hps1 hpb)); have hcb : ∀ j, w8.cell? ⟨b, j, none⟩ = w1.cell? ⟨b, j, none⟩ := (fun j => World.cell?_of_block (hg8.block b hbr1 hbb)))
              refine hK.out _ _ ⟨(hcg _).trans y4, (hcp _).trans t4, (hcb _).trans g0, (hcb _).trans g1, (hcb _).trans g2, (hcb _).trans g3, (hcb _).trans g4⟩ ?_
              clear hK K
              try simp only [Act.put, List.getElem_toArray, List.getElem_cons_zero, List.getElem_cons_succ, List.setIfInBounds_toArray, List.set_cons_zero, List.set_cons_succ]
              have q4 := (hcg 4).trans y4
              have qf : w8.frozen? ⟨w.heap.size + 1 + 1, 4, none⟩ = false := ((HO.out.1.below Hb1.out HO.out.1.lt).grown hg8 hgb).frozen 4
              have Hpush : Hid (OutAt (w8.setCell ⟨w.heap.size + 1 + 1, 4, none⟩ (.slice A8 (k + 1) c8)) (w.heap.size + 1 + 1) (w.heap.size + 1 + 1 + 1) (fun b => Kb ≤ b ∧ b < w.heap.size + 1 + 1 + 1) t.k (t.n) (r) (t.c) ((t.l.take (k + 1)).map U) A8 c8) := by
                have h := OutAt.push (HO.out.below Hb1.out) (A6 := A8) (c6 := c8) (w' := w8) u
                rw [Hlk.out] at h
                rw [Hst.out]
                exact Lib.hid (h ho8 hg8)
              have Hb8 := Lib.hid (hbel8.setCell (p := ⟨w.heap.size + 1 + 1, 4, none⟩) (Nat.le_refl _) (.slice A8 (k + 1) c8))
              clear hcg hcp hcb hgb hpb hbb ho8 hbel8 hg8 y4 t4 g0 g1 g2 g3 g4
              refine wpAnyT_seq 11 (by omega) (by rfl) (by kernel_rfl) ?_
              simp only [List.drop_succ_cons, List.drop_zero]
              go_wp2_with fail
              refine NoPanic.normal ?_
              clear q4 qf
              go_wp2_with fail
              go_roundg (m - (k + 1))
              case measure => omega
              case rel => exact ⟨k + 1, A8, c8, by omega, rfl, by go_num, Hpush.out, Hb8.out⟩
            · have d0 : decide (k < m) = false := by simpa using hkm
              have hall : t.l.take k = t.l := List.take_of_length_le (by omega)
              rw [hall] at hO
              have hT := OutAt.done (s := w.heap.size + 1 + 1 + 1) hO (Nat.le_refl _) (by omega)
              have hlm : (t.l.map U).length = m := by rw [List.length_map]; exact hlen
              have hk5 := hO.1
              rw [hlm] at hk5 hT
              have x0 := hk5.cell 0
              have x1 := hk5.cell 1
              have x2 := hk5.cell 2
              have x3 := hk5.cell 3
              have x4 := hk5.cell 4
              have hyr := Hy7.out.below hbel (by omega)
              have s0 := hyr.frozen 0
              have s1 := hyr.frozen 1
              have s2 := hyr.frozen 2
              have s3 := hyr.frozen 3
              have s4 := hyr.frozen 4
              have r0 := hyr.cell 0
              have r1 := hyr.cell 1
              have r2 := hyr.cell 2
              have r3 := hyr.cell 3
              have r4 := hyr.cell 4
              have hg1 : w.heap.size ≤ w.heap.size + 1 := by omega
              have Hyr := Lib.hid hyr
              have HT5 := Lib.hid hT
              have HbF := Lib.hid hW7r
              clear hO hk5 hT hyr hall hlm hbel hzr hW7r
              go_wp2_with fail
              have hyr := Hyr.out
              have hW7r := HbF.out
              have hs9 := ((((hyr.set_ 0 (.int .u8 (t.k))).set_ 1 (.int .i64 ((t.n)))).set_ 2 (.int .i64 (r))).set_ 3 (.int .u8 (t.c))).set_ 4 (.slice A5 m c5)
              have hb9 := ((((hW7r.setCell (p := ⟨w.heap.size + 1, 0, none⟩) hg1 (.int .u8 (t.k))).setCell (p := ⟨w.heap.size + 1, 1, none⟩) hg1 (.int .i64 ((t.n)))).setCell (p := ⟨w.heap.size + 1, 2, none⟩) hg1 (.int .i64 (r))).setCell (p := ⟨w.heap.size + 1, 3, none⟩) hg1 (.int .u8 (t.c))).setCell (p := ⟨w.heap.size + 1, 4, none⟩) hg1 (.slice A5 m c5)
              generalize hW9 : ((((((wr).setCell ⟨w.heap.size + 1, 0, none⟩ (.int .u8 (t.k))).setCell ⟨w.heap.size + 1, 1, none⟩ (.int .i64 ((t.n)))).setCell ⟨w.heap.size + 1, 2, none⟩ (.int .i64 (r))).setCell ⟨w.heap.size + 1, 3, none⟩ (.int .u8 (t.c))).setCell ⟨w.heap.size + 1, 4, none⟩ (.slice A5 m c5)) = W9 at hs9 hb9 ⊢
              replace hs9 : Blk W9 (w.heap.size + 1) 27 #[.int .u8 (t.k), .int .i64 ((t.n)), .int .i64 (r), .int .u8 (t.c), .slice A5 m c5] := hs9
              have d0' : W9.cell? ⟨w.heap.size + 1, 0, none⟩ = some (.int .u8 (t.k)) := hs9.cell 0
              have d1' : W9.cell? ⟨w.heap.size + 1, 1, none⟩ = some (.int .i64 ((t.n))) := hs9.cell 1
              have d2' : W9.cell? ⟨w.heap.size + 1, 2, none⟩ = some (.int .i64 (r)) := hs9.cell 2
              have d3' : W9.cell? ⟨w.heap.size + 1, 3, none⟩ = some (.int .u8 (t.c)) := hs9.cell 3
              have d4' : W9.cell? ⟨w.heap.size + 1, 4, none⟩ = some (.slice A5 m c5) := hs9.cell 4
              have hT9 : TysS W9 (fun b => b < Kb ∨ (w.heap.size ≤ b ∧ b < W9.heap.size)) A5 m c5 (t.l.map U) := by
                rw [← hW9]
                refine HT5.out.keep (fun b hb => ?_) fun p hp => ?_
                · rcases hb with hb | hb
                  · exact .inl hb
                  · exact .inr ⟨by omega, by simpa using hb.2⟩
                · have c1 : ∀ (W' : World) (o : Nat) (v : Value), (W'.setCell ⟨w.heap.size + 1, o, none⟩ v).cell? p = W'.cell? p := fun W' o v => World.cell?_setCell_other _ _ _ _ (fun e => by
                    have e1 : w.heap.size + 1 = p.block := by rw [← e]
                    rcases hp with hp | hp <;> omega)
                  rw [c1, c1, c1, c1, c1]
              exact bodyPost_ret (v := .agg #[.int .u8 t.k, .int .i64 (t.n), .int .i64 (r), .int .u8 (t.c), .slice A5 m c5]) (by simp [results, Tryd.results66, go_sem, d0', d1', d2', d3', d4']) rfl (by rw [HR.out]; exact ⟨A5, m, c5, rfl, hT9, hb9⟩)
        · have dc : (t.c == 0) = false := by simp [hc]
          have HR : Hid (ren (idxN l1) (idxN l2) t = .mk t.k t.n t.v t.c (t.l.map U)) := Lib.hid (by rw [ren_eq, if_neg h1, if_neg (fun h => hc h.2), if_neg (fun h => hc h.2), HU.out])
          clear h1 h7 hc
          have HOut : Hid (OutAt (W.alloc (Obj.cells #[.int .u8 t.k, .int .i64 t.n, .int .i64 t.v, .int .u8 t.c, .slice none 0 0] 27)) (w.heap.size + 1 + 1) (w.heap.size + 1 + 1 + 1) (fun b => Kb ≤ b ∧ b < w.heap.size + 1 + 1 + 1) t.k t.n t.v t.c [] none 0) := Lib.hid ⟨by rw [← hsz]; exact blk_new W _ _, OwnC.nil, ⟨by omega, by omega⟩, by omega⟩
          have Hbx := Lib.hid (below_box (w := W) (Obj.cells #[.int .u8 t.k, .int .i64 t.n, .int .i64 t.v, .int .u8 t.c, .slice none 0 0] 27))
          go_enter Tryd.func66, Tryd.ntmps66
          go_wp2_with fail
          rw [HW.out]
          obtain ⟨W7, hW7⟩ : ∃ W7, W.alloc (Obj.cells #[.int .u8 t.k, .int .i64 t.n, .int .i64 t.v, .int .u8 t.c, .slice none 0 0] 27) = W7 := ⟨_, rfl⟩
          rw [hW7] at HOut Hbx ⊢
          have hout := HOut.out
          have Hb7 := Lib.hid (Hb.out.trans (Hbx.out.mono Hb.out.size))
          have Hz7 := Lib.hid (Hz.out.below Hbx.out Hz.out.lt)
          have Hy7 := Lib.hid (Hy.out.below Hbx.out Hy.out.lt)
          clear hW7 HOut z0 z1 z2 z3 z4
          have HoutI : Hid (OutAt W7 (w.heap.size + 1 + 1) (w.heap.size + 1 + 1 + 1) (fun b => Kb ≤ b ∧ b < w.heap.size + 1 + 1 + 1) t.k (t.n) (t.v) (t.c) [] none 0) := Lib.hid hout
          clear hout
          go_loopg [6] m (fun gh i wr => ∃ (k : Nat) (A5 : Option Addr) (c5 : Nat), k ≤ m ∧ gh = m - k ∧ i = .int .i64 k ∧ OutAt wr (w.heap.size + 1 + 1) (w.heap.size + 1 + 1 + 1) (fun b => Kb ≤ b ∧ b < w.heap.size + 1 + 1 + 1) t.k (t.n) (t.v) (t.c) ((t.l.take k).map U) A5 c5 ∧ Below (w.heap.size + 1 + 1) W7 wr)
          case atStart => exact ⟨0, none, 0, Nat.zero_le _, rfl, rfl, HoutI.out, Below.refl _ _⟩
          case round =>
            obtain ⟨k, A5, c5, hk, rfl, rfl, hO, hbel⟩ := hrel
            have hW7r := Hb7.out.trans (hbel.mono hle2)
            have hzr := Hz7.out.below hbel hlt0
            have z4 := hzr.cell 4
            by_cases hkm : k < m
            · have d0 : decide (k < m) = true := by simpa using hkm
              have hk' : k < t.l.length := by omega
              have hlk : ((t.l.take k).map U).length = k := by rw [List.length_map, List.length_take]; omega
              obtain ⟨b, off, rfl, hb, hc⟩ := (HL.out.below hW7r).at_ (by omega)
              obtain ⟨e0, e1, e2, e3, Ax, mx, cx, e4, hx⟩ := tyAt_iff.1 (hc k hk')
              have hmx := mayT_kid HM.out hk'
              have hnx := HN.out k hk'
              have hst : (t.l.take (k + 1)).map U = (t.l.take k).map U ++ [U t.l[k]] := by rw [List.take_succ_eq_append_getElem hk', List.map_append]; rfl
              obtain ⟨x, hxk⟩ : ∃ x, t.l[k] = x := ⟨_, rfl⟩
              rw [hxk] at e0 e1 e2 e3 hx hmx hnx hst
              have hsr : w.heap.size + 1 + 1 + 1 ≤ wr.heap.size := by have := hO.1.lt; omega
              have h0w : Below w.heap.size w wr := hW7r
              have h0K : Below Kb w wr := hW7r.mono hK
              have hq := fun (W' : World) (h : Below wr.heap.size wr W') => Ih.out x hnx hmx Ax mx cx W' (((hx.more (by omega)).fresh h)) (by have := h.size; omega) ((HS.out.fresh h0w).fresh h)
              obtain ⟨u, hu⟩ : ∃ u, U x = u := ⟨_, rfl⟩
              rw [hu] at hst
              simp only [hu] at hq
              obtain ⟨X, hX⟩ : ∃ X, (t.l.take k).map U = X := ⟨_, rfl⟩
              rw [hX] at hO hlk hst
              have x4 := hO.1.cell 4
              have hbr : b < wr.heap.size := by omega
              have HO := Lib.hid hO
              have Hq := Lib.hid hq
              have Hu := Lib.hid hu
              have Hst := Lib.hid hst
              have Hlk := Lib.hid hlk
              have Hbel := Lib.hid hbel
              have Hzr := Lib.hid hzr
              have k1 : (0 : Int) ≤ (k : Int) := by omega
              have k2 : (k : Int) < m := by omega
              clear hO hq hu hst hX hbel hzr hx hmx hnx hc hxk hW7r h0w h0K
              rw [hlk] at x4
              clear hlk
              go_wp2_with fail
              have hgs : w.heap.size + 1 + 1 < wr.heap.size := HO.out.1.lt
              have hps : w.heap.size < wr.heap.size := by omega
              have hbd : Below wr.heap.size wr wr.drew := Below.drew (Below.refl _ _)
              refine wp_region_noPanic ?_
              refine wp_region_T (fun w' => w'.cell? ⟨w.heap.size + 1 + 1, 4, none⟩ = some (.slice A5 k c5) ∧ w'.cell? ⟨w.heap.size, 4, none⟩ = some (.slice (some ⟨b, off, none⟩) m cp) ∧ w'.cell? ⟨b, off + k * 5, none⟩ = some (.int .u8 x.k) ∧ w'.cell? ⟨b, off + k * 5 + 1, none⟩ = some (.int .i64 x.n) ∧ w'.cell? ⟨b, off + k * 5 + 2, none⟩ = some (.int .i64 x.v) ∧ w'.cell? ⟨b, off + k * 5 + 3, none⟩ = some (.int .u8 x.c) ∧ w'.cell? ⟨b, off + k * 5 + 4, none⟩ = some (.slice Ax mx cx)) 11 (by kernel_rfl) ⟨x4, z4, e0, e1, e2, e3, e4⟩ (fun hHeld => ?_)
              refine wpAnyT_take (i := 0) (v := ?_) rfl (by kernel_rfl) (by kernel_rfl) (by kernel_rfl) (by kernel_rfl) (fun _ _ _ h => h) (Or.inl ⟨by rfl, ?_⟩) (by assumption) ?_
              rotate_left
              · (intro w hSw; (try dsimp only at hSw); first | (go_simp; done) | (go_simp; with_reducible rfl))
              try simp only [Act.put, List.getElem_toArray, List.getElem_cons_zero, List.getElem_cons_succ, List.setIfInBounds_toArray, List.set_cons_zero, List.set_cons_succ]
              refine wpAnyT_take (i := 1) (v := ?_) rfl (by kernel_rfl) (by kernel_rfl) (by kernel_rfl) (by kernel_rfl) (fun _ _ _ h => h) (Or.inl ⟨by rfl, ?_⟩) (by assumption) ?_
              rotate_left
              · (intro w hSw; (try dsimp only at hSw); first | (go_simp; done) | (go_simp; with_reducible rfl))
              try simp only [Act.put, List.getElem_toArray, List.getElem_cons_zero, List.getElem_cons_succ, List.setIfInBounds_toArray, List.set_cons_zero, List.set_cons_succ]
              refine wpAnyT_take (i := 2) (v := ?_) rfl (by kernel_rfl) (by kernel_rfl) (by kernel_rfl) (by kernel_rfl) (fun _ _ _ h => h) (Or.inl ⟨by rfl, ?_⟩) (by assumption) ?_
              rotate_left
              · (intro w hSw; (try dsimp only at hSw); first | (go_simp; done) | (go_simp; with_reducible rfl))
              try simp only [Act.put, List.getElem_toArray, List.getElem_cons_zero, List.getElem_cons_succ, List.setIfInBounds_toArray, List.set_cons_zero, List.set_cons_succ]
              refine wpAnyT_take (i := 3) (v := ?_) rfl (by kernel_rfl) (by kernel_rfl) (by kernel_rfl) (by kernel_rfl) (fun _ _ _ h => h) (Or.inl ⟨by rfl, ?_⟩) (by assumption) ?_
              rotate_left
              · (intro w hSw; (try dsimp only at hSw); first | (go_simp; done) | (go_simp; with_reducible rfl))
              try simp only [Act.put, List.getElem_toArray, List.getElem_cons_zero, List.getElem_cons_succ, List.setIfInBounds_toArray, List.set_cons_zero, List.set_cons_succ]
              refine wpAnyT_take (i := 4) (v := ?_) rfl (by kernel_rfl) (by kernel_rfl) (by kernel_rfl) (by kernel_rfl) (fun _ _ _ h => h) (Or.inl ⟨by rfl, ?_⟩) (by assumption) ?_
              rotate_left
              · (intro w hSw; (try dsimp only at hSw); first | (go_simp; done) | (go_simp; with_reducible rfl))
              try simp only [Act.put, List.getElem_toArray, List.getElem_cons_zero, List.getElem_cons_succ, List.setIfInBounds_toArray, List.set_cons_zero, List.set_cons_succ]
              refine wpAnyT_take (i := 5) (v := ?_) rfl (by kernel_rfl) (by kernel_rfl) (by kernel_rfl) (by kernel_rfl) (fun _ _ _ h => h) (Or.inl ⟨by rfl, ?_⟩) (by assumption) ?_
              rotate_left
              · (intro w hSw; (try dsimp only at hSw); first | (go_simp; done) | (go_simp; with_reducible rfl))
              try simp only [Act.put, List.getElem_toArray, List.getElem_cons_zero, List.getElem_cons_succ, List.setIfInBounds_toArray, List.set_cons_zero, List.set_cons_succ]
              refine wpAnyT_take (i := 6) (v := ?_) rfl (by kernel_rfl) (by kernel_rfl) (by kernel_rfl) (by kernel_rfl) (fun _ _ _ h => h) (Or.inl ⟨by rfl, ?_⟩) (by assumption) ?_
              rotate_left
              · (intro w hSw; (try dsimp only at hSw); first | (go_simp; done) | (go_simp; with_reducible rfl))
              try simp only [Act.put, List.getElem_toArray, List.getElem_cons_zero, List.getElem_cons_succ, List.setIfInBounds_toArray, List.set_cons_zero, List.set_cons_succ]
              refine wpAnyT_take (i := 7) (v := ?_) rfl (by kernel_rfl) (by kernel_rfl) (by kernel_rfl) (by kernel_rfl) (fun _ _ _ h => h) (Or.inl ⟨by rfl, ?_⟩) (by assumption) ?_
              rotate_left
              · (intro w hSw; (try dsimp only at hSw); first | (go_simp; done) | (go_simp; with_reducible rfl))
              try simp only [Act.put, List.getElem_toArray, List.getElem_cons_zero, List.getElem_cons_succ, List.setIfInBounds_toArray, List.set_cons_zero, List.set_cons_succ]
              refine wpAnyT_step (i := 8) (by kernel_rfl) rfl (fun K hK => ?_)
              (go_simp; refine (Hq.out _ hbd).mono ?_; rintro e w1 ⟨A7, m7, c7, rfl, h7, hb7⟩; have hb1 : Below wr.heap.size wr w1 := hbd.trans (hb7.mono hbd.size); have Hb1 := Lib.hid hb1; have H7 := Lib.hid h7; have hs1 := hb1.size; clear h7 hb7 hb1)
              refine hK.out _ _ ⟨(Hb1.out.cell (p := ⟨w.heap.size + 1 + 1, 4, none⟩) hgs).trans x4, (Hb1.out.cell (p := ⟨w.heap.size, 4, none⟩) hps).trans z4, (Hb1.out.cell (p := ⟨b, off + k * 5, none⟩) hbr).trans e0, (Hb1.out.cell (p := ⟨b, off + k * 5 + 1, none⟩) hbr).trans e1, (Hb1.out.cell (p := ⟨b, off + k * 5 + 2, none⟩) hbr).trans e2, (Hb1.out.cell (p := ⟨b, off + k * 5 + 3, none⟩) hbr).trans e3, (Hb1.out.cell (p := ⟨b, off + k * 5 + 4, none⟩) hbr).trans e4⟩ ?_
              clear hK K
              try simp only [Act.put, List.getElem_toArray, List.getElem_cons_zero, List.getElem_cons_succ, List.setIfInBounds_toArray, List.set_cons_zero, List.set_cons_succ]
              have y4 := (Hb1.out.cell (p := ⟨w.heap.size + 1 + 1, 4, none⟩) hgs).trans x4
              have t4 := (Hb1.out.cell (p := ⟨w.heap.size, 4, none⟩) hps).trans z4
              have g0 := (Hb1.out.cell (p := ⟨b, off + k * 5, none⟩) hbr).trans e0
              have g1 := (Hb1.out.cell (p := ⟨b, off + k * 5 + 1, none⟩) hbr).trans e1
              have g2 := (Hb1.out.cell (p := ⟨b, off + k * 5 + 2, none⟩) hbr).trans e2
              have g3 := (Hb1.out.cell (p := ⟨b, off + k * 5 + 3, none⟩) hbr).trans e3
              have g4 := (Hb1.out.cell (p := ⟨b, off + k * 5 + 4, none⟩) hbr).trans e4
              have hgs1 : w.heap.size + 1 + 1 < w1.heap.size := by omega
              have hps1 : w.heap.size < w1.heap.size := by omega
              have hbr1 : b < w1.heap.size := by omega
              clear x4 z4 e0 e1 e2 e3 e4
              refine wpAnyT_step (i := 8 + 1) (by kernel_rfl) rfl (fun K hK => ?_)
              go_simp
              refine hK.out _ _ ⟨(World.cell?_alloc_lt _ _ ⟨w.heap.size + 1 + 1, 4, none⟩ hgs1).trans y4, (World.cell?_alloc_lt _ _ ⟨w.heap.size, 4, none⟩ hps1).trans t4, (World.cell?_alloc_lt _ _ ⟨b, off + k * 5, none⟩ hbr1).trans g0, (World.cell?_alloc_lt _ _ ⟨b, off + k * 5 + 1, none⟩ hbr1).trans g1, (World.cell?_alloc_lt _ _ ⟨b, off + k * 5 + 2, none⟩ hbr1).trans g2, (World.cell?_alloc_lt _ _ ⟨b, off + k * 5 + 3, none⟩ hbr1).trans g3, (World.cell?_alloc_lt _ _ ⟨b, off + k * 5 + 4, none⟩ hbr1).trans g4⟩ ?_
              clear hK K
              try simp only [Act.put, List.getElem_toArray, List.getElem_cons_zero, List.getElem_cons_succ, List.setIfInBounds_toArray, List.set_cons_zero, List.set_cons_succ]
              have hs0 := HO.out.2.1.lt
              have hcV : CelsV w1 (fun b => b < w1.heap.size ∧ some b ≠ (Value.slice A5 X.length c5).ownBlock ∧ ¬ (Kb ≤ b ∧ b < w.heap.size + 1 + 1 + 1)) (encT u) [.int .u8 u.k, .int .i64 u.n, .int .i64 u.v, .int .u8 u.c, .slice A7 m7 c7] := tyC (H7.out.mono fun q hq => by
                rcases hq with hq | hq
                · refine ⟨by omega, fun e => ?_, by omega⟩
                  have := (hs0 q e.symm).1
                  omega
                · have hq1 : wr.heap.size ≤ q := hq.1
                  refine ⟨hq.2, fun e => ?_, by omega⟩
                  have := (hs0 q e.symm).2
                  omega)
              have hO1 := HO.out.2.1.beyond Hb1.out
              have hlk := Hlk.out
              rw [hlk] at hcV hO1
              have HcV := Lib.hid hcV
              have HO1 := Lib.hid hO1
              have HB1 := Lib.hid (Hbel.out.trans (Hb1.out.mono (by omega)))
              clear hcV hO1 hs0 H7
              refine wpAnyT_step (i := 8 + 2) (by kernel_rfl) rfl (fun K hK => ?_)
              (refine step_append_cel W7 w1 (by rfl) (.tmp 52) (.tmp 60) 25 (by rfl) (w.heap.size + 1 + 1 + 1) 27 i0 _ 5 56 Tryd.underlying25 hi0 hz0 hz1 hz2 rfl (by omega) (fun b => Kb ≤ b ∧ b < w.heap.size + 1 + 1 + 1) (.slice A5 k c5) k _ (by rfl) [.int .u8 u.k, .int .i64 u.n, .int .i64 u.v, .int .u8 u.c, .slice A7 m7 c7] (encT u) rfl (by intro u hu; simp at hu; rcases hu with rfl | rfl | rfl | rfl | rfl <;> rfl) (by rfl) HO1.out HcV.out (by unfold maxLen; have := mayT_len HM.out; omega) (by have := mayT_len HM.out; omega) HB1.out (by omega) (by omega) ?_; intro A8 c8 w8 ho8 hbel8 hg8 hsz8 _; have hgb : some (w.heap.size + 1 + 1) ≠ (Value.slice A5 k c5).ownBlock := (fun e => by have := (HO1.out.lt _ e.symm).1; omega); have hpb : some w.heap.size ≠ (Value.slice A5 k c5).ownBlock := (fun e => by have := (HO1.out.lt _ e.symm).1; omega); have hbb : some b ≠ (Value.slice A5 k c5).ownBlock := (fun e => by have := (HO1.out.lt _ e.symm).1; omega); have hcg : ∀ j, w8.cell? ⟨w.heap.size + 1 + 1, j, none⟩ = w1.cell? ⟨w.heap.size + 1 + 1, j, none⟩ := (fun j => World.cell?_of_block (hg8.block (w.heap.size + 1 + 1) hgs1 hgb)); have hcp : ∀ j, w8.cell? ⟨w.heap.size, j, none⟩ = w1.cell? ⟨w.heap.size, j, none⟩ := (fun j => World.cell?_of_block (hg8.block w.heap.size hps1 hpb)); have hcb : ∀ j, w8.cell? ⟨b, j, none⟩ = w1.cell? ⟨b, j, none⟩ := (fun j => World.cell?_of_block (hg8.block b hbr1 hbb)))
              refine hK.out _ _ ⟨(hcg _).trans y4, (hcp _).trans t4, (hcb _).trans g0, (hcb _).trans g1, (hcb _).trans g2, (hcb _).trans g3, (hcb _).trans g4⟩ ?_
              clear hK K
              try simp only [Act.put, List.getElem_toArray, List.getElem_cons_zero, List.getElem_cons_succ, List.setIfInBounds_toArray, List.set_cons_zero, List.set_cons_succ]
              have q4 := (hcg 4).trans y4
              have qf : w8.frozen? ⟨w.heap.size + 1 + 1, 4, none⟩ = false := ((HO.out.1.below Hb1.out HO.out.1.lt).grown hg8 hgb).frozen 4
              have Hpush : Hid (OutAt (w8.setCell ⟨w.heap.size + 1 + 1, 4, none⟩ (.slice A8 (k + 1) c8)) (w.heap.size + 1 + 1) (w.heap.size + 1 + 1 + 1) (fun b => Kb ≤ b ∧ b < w.heap.size + 1 + 1 + 1) t.k (t.n) (t.v) (t.c) ((t.l.take (k + 1)).map U) A8 c8) := by
                have h := OutAt.push (HO.out.below Hb1.out) (A6 := A8) (c6 := c8) (w' := w8) u
                rw [Hlk.out] at h
                rw [Hst.out]
                exact Lib.hid (h ho8 hg8)
              have Hb8 := Lib.hid (hbel8.setCell (p := ⟨w.heap.size + 1 + 1, 4, none⟩) (Nat.le_refl _) (.slice A8 (k + 1) c8))
              clear hcg hcp hcb hgb hpb hbb ho8 hbel8 hg8 y4 t4 g0 g1 g2 g3 g4
              refine wpAnyT_seq 11 (by omega) (by rfl) (by kernel_rfl) ?_
              simp only [List.drop_succ_cons, List.drop_zero]
              go_wp2_with fail
              refine NoPanic.normal ?_
              clear q4 qf
              go_wp2_with fail
              go_roundg (m - (k + 1))
              case measure => omega
              case rel => exact ⟨k + 1, A8, c8, by omega, rfl, by go_num, Hpush.out, Hb8.out⟩
            · have d0 : decide (k < m) = false := by simpa using hkm
              have hall : t.l.take k = t.l := List.take_of_length_le (by omega)
              rw [hall] at hO
              have hT := OutAt.done (s := w.heap.size + 1 + 1 + 1) hO (Nat.le_refl _) (by omega)
              have hlm : (t.l.map U).length = m := by rw [List.length_map]; exact hlen
              have hk5 := hO.1
              rw [hlm] at hk5 hT
              have x0 := hk5.cell 0
              have x1 := hk5.cell 1
              have x2 := hk5.cell 2
              have x3 := hk5.cell 3
              have x4 := hk5.cell 4
              have hyr := Hy7.out.below hbel (by omega)
              have s0 := hyr.frozen 0
              have s1 := hyr.frozen 1
              have s2 := hyr.frozen 2
              have s3 := hyr.frozen 3
              have s4 := hyr.frozen 4
              have r0 := hyr.cell 0
              have r1 := hyr.cell 1
              have r2 := hyr.cell 2
              have r3 := hyr.cell 3
              have r4 := hyr.cell 4
              have hg1 : w.heap.size ≤ w.heap.size + 1 := by omega
              have Hyr := Lib.hid hyr
              have HT5 := Lib.hid hT
              have HbF := Lib.hid hW7r
              clear hO hk5 hT hyr hall hlm hbel hzr hW7r
              go_wp2_with fail
              have hyr := Hyr.out
              have hW7r := HbF.out
              have hs9 := ((((hyr.set_ 0 (.int .u8 (t.k))).set_ 1 (.int .i64 ((t.n)))).set_ 2 (.int .i64 (t.v))).set_ 3 (.int .u8 (t.c))).set_ 4 (.slice A5 m c5)
              have hb9 := ((((hW7r.setCell (p := ⟨w.heap.size + 1, 0, none⟩) hg1 (.int .u8 (t.k))).setCell (p := ⟨w.heap.size + 1, 1, none⟩) hg1 (.int .i64 ((t.n)))).setCell (p := ⟨w.heap.size + 1, 2, none⟩) hg1 (.int .i64 (t.v))).setCell (p := ⟨w.heap.size + 1, 3, none⟩) hg1 (.int .u8 (t.c))).setCell (p := ⟨w.heap.size + 1, 4, none⟩) hg1 (.slice A5 m c5)
              generalize hW9 : ((((((wr).setCell ⟨w.heap.size + 1, 0, none⟩ (.int .u8 (t.k))).setCell ⟨w.heap.size + 1, 1, none⟩ (.int .i64 ((t.n)))).setCell ⟨w.heap.size + 1, 2, none⟩ (.int .i64 (t.v))).setCell ⟨w.heap.size + 1, 3, none⟩ (.int .u8 (t.c))).setCell ⟨w.heap.size + 1, 4, none⟩ (.slice A5 m c5)) = W9 at hs9 hb9 ⊢
              replace hs9 : Blk W9 (w.heap.size + 1) 27 #[.int .u8 (t.k), .int .i64 ((t.n)), .int .i64 (t.v), .int .u8 (t.c), .slice A5 m c5] := hs9
              have d0' : W9.cell? ⟨w.heap.size + 1, 0, none⟩ = some (.int .u8 (t.k)) := hs9.cell 0
              have d1' : W9.cell? ⟨w.heap.size + 1, 1, none⟩ = some (.int .i64 ((t.n))) := hs9.cell 1
              have d2' : W9.cell? ⟨w.heap.size + 1, 2, none⟩ = some (.int .i64 (t.v)) := hs9.cell 2
              have d3' : W9.cell? ⟨w.heap.size + 1, 3, none⟩ = some (.int .u8 (t.c)) := hs9.cell 3
              have d4' : W9.cell? ⟨w.heap.size + 1, 4, none⟩ = some (.slice A5 m c5) := hs9.cell 4
              have hT9 : TysS W9 (fun b => b < Kb ∨ (w.heap.size ≤ b ∧ b < W9.heap.size)) A5 m c5 (t.l.map U) := by
                rw [← hW9]
                refine HT5.out.keep (fun b hb => ?_) fun p hp => ?_
                · rcases hb with hb | hb
                  · exact .inl hb
                  · exact .inr ⟨by omega, by simpa using hb.2⟩
                · have c1 : ∀ (W' : World) (o : Nat) (v : Value), (W'.setCell ⟨w.heap.size + 1, o, none⟩ v).cell? p = W'.cell? p := fun W' o v => World.cell?_setCell_other _ _ _ _ (fun e => by
                    have e1 : w.heap.size + 1 = p.block := by rw [← e]
                    rcases hp with hp | hp <;> omega)
                  rw [c1, c1, c1, c1, c1]
              exact bodyPost_ret (v := .agg #[.int .u8 t.k, .int .i64 (t.n), .int .i64 (t.v), .int .u8 (t.c), .slice A5 m c5]) (by simp [results, Tryd.results66, go_sem, d0', d1', d2', d3', d4']) rfl (by rw [HR.out]; exact ⟨A5, m, c5, rfl, hT9, hb9⟩)
      · have d7 : (t.k == 7) = false := by simpa using h7
        have HR : Hid (ren (idxN l1) (idxN l2) t = .mk t.k t.n t.v t.c (t.l.map U)) := Lib.hid (by rw [ren_eq, if_neg h1, if_neg (fun h => h7 h.1), if_neg (fun h => h7 h.1), HU.out])
        clear h1 h7
        have HOut : Hid (OutAt (W.alloc (Obj.cells #[.int .u8 t.k, .int .i64 t.n, .int .i64 t.v, .int .u8 t.c, .slice none 0 0] 27)) (w.heap.size + 1 + 1) (w.heap.size + 1 + 1 + 1) (fun b => Kb ≤ b ∧ b < w.heap.size + 1 + 1 + 1) t.k t.n t.v t.c [] none 0) := Lib.hid ⟨by rw [← hsz]; exact blk_new W _ _, OwnC.nil, ⟨by omega, by omega⟩, by omega⟩
        have Hbx := Lib.hid (below_box (w := W) (Obj.cells #[.int .u8 t.k, .int .i64 t.n, .int .i64 t.v, .int .u8 t.c, .slice none 0 0] 27))
        go_enter Tryd.func66, Tryd.ntmps66
        go_wp2_with fail
        rw [HW.out]
        obtain ⟨W7, hW7⟩ : ∃ W7, W.alloc (Obj.cells #[.int .u8 t.k, .int .i64 t.n, .int .i64 t.v, .int .u8 t.c, .slice none 0 0] 27) = W7 := ⟨_, rfl⟩
        rw [hW7] at HOut Hbx ⊢
        have hout := HOut.out
        have Hb7 := Lib.hid (Hb.out.trans (Hbx.out.mono Hb.out.size))
        have Hz7 := Lib.hid (Hz.out.below Hbx.out Hz.out.lt)
        have Hy7 := Lib.hid (Hy.out.below Hbx.out Hy.out.lt)
        clear hW7 HOut z0 z1 z2 z3 z4
        have HoutI : Hid (OutAt W7 (w.heap.size + 1 + 1) (w.heap.size + 1 + 1 + 1) (fun b => Kb ≤ b ∧ b < w.heap.size + 1 + 1 + 1) t.k (t.n) (t.v) (t.c) [] none 0) := Lib.hid hout
        clear hout
        go_loopg [6] m (fun gh i wr => ∃ (k : Nat) (A5 : Option Addr) (c5 : Nat), k ≤ m ∧ gh = m - k ∧ i = .int .i64 k ∧ OutAt wr (w.heap.size + 1 + 1) (w.heap.size + 1 + 1 + 1) (fun b => Kb ≤ b ∧ b < w.heap.size + 1 + 1 + 1) t.k (t.n) (t.v) (t.c) ((t.l.take k).map U) A5 c5 ∧ Below (w.heap.size + 1 + 1) W7 wr)
        case atStart => exact ⟨0, none, 0, Nat.zero_le _, rfl, rfl, HoutI.out, Below.refl _ _⟩
        case round =>
          obtain ⟨k, A5, c5, hk, rfl, rfl, hO, hbel⟩ := hrel
          have hW7r := Hb7.out.trans (hbel.mono hle2)
          have hzr := Hz7.out.below hbel hlt0
          have z4 := hzr.cell 4
          by_cases hkm : k < m
          · have d0 : decide (k < m) = true := by simpa using hkm
            have hk' : k < t.l.length := by omega
            have hlk : ((t.l.take k).map U).length = k := by rw [List.length_map, List.length_take]; omega
            obtain ⟨b, off, rfl, hb, hc⟩ := (HL.out.below hW7r).at_ (by omega)
            obtain ⟨e0, e1, e2, e3, Ax, mx, cx, e4, hx⟩ := tyAt_iff.1 (hc k hk')
            have hmx := mayT_kid HM.out hk'
            have hnx := HN.out k hk'
            have hst : (t.l.take (k + 1)).map U = (t.l.take k).map U ++ [U t.l[k]] := by rw [List.take_succ_eq_append_getElem hk', List.map_append]; rfl
            obtain ⟨x, hxk⟩ : ∃ x, t.l[k] = x := ⟨_, rfl⟩
            rw [hxk] at e0 e1 e2 e3 hx hmx hnx hst
            have hsr : w.heap.size + 1 + 1 + 1 ≤ wr.heap.size := by have := hO.1.lt; omega
            have h0w : Below w.heap.size w wr := hW7r
            have h0K : Below Kb w wr := hW7r.mono hK
            have hq := fun (W' : World) (h : Below wr.heap.size wr W') => Ih.out x hnx hmx Ax mx cx W' (((hx.more (by omega)).fresh h)) (by have := h.size; omega) ((HS.out.fresh h0w).fresh h)
            obtain ⟨u, hu⟩ : ∃ u, U x = u := ⟨_, rfl⟩
            rw [hu] at hst
            simp only [hu] at hq
            obtain ⟨X, hX⟩ : ∃ X, (t.l.take k).map U = X := ⟨_, rfl⟩
            rw [hX] at hO hlk hst
            have x4 := hO.1.cell 4
            have hbr : b < wr.heap.size := by omega
            have HO := Lib.hid hO
            have Hq := Lib.hid hq
            have Hu := Lib.hid hu
            have Hst := Lib.hid hst
            have Hlk := Lib.hid hlk
            have Hbel := Lib.hid hbel
            have Hzr := Lib.hid hzr
            have k1 : (0 : Int) ≤ (k : Int) := by omega
            have k2 : (k : Int) < m := by omega
            clear hO hq hu hst hX hbel hzr hx hmx hnx hc hxk hW7r h0w h0K
            rw [hlk] at x4
            clear hlk
            go_wp2_with fail
            have hgs : w.heap.size + 1 + 1 < wr.heap.size := HO.out.1.lt
            have hps : w.heap.size < wr.heap.size := by omega
            have hbd : Below wr.heap.size wr wr.drew := Below.drew (Below.refl _ _)
            refine wp_region_noPanic ?_
            refine wp_region_T (fun w' => w'.cell? ⟨w.heap.size + 1 + 1, 4, none⟩ = some (.slice A5 k c5) ∧ w'.cell? ⟨w.heap.size, 4, none⟩ = some (.slice (some ⟨b, off, none⟩) m cp) ∧ w'.cell? ⟨b, off + k * 5, none⟩ = some (.int .u8 x.k) ∧ w'.cell? ⟨b, off + k * 5 + 1, none⟩ = some (.int .i64 x.n) ∧ w'.cell? ⟨b, off + k * 5 + 2, none⟩ = some (.int .i64 x.v) ∧ w'.cell? ⟨b, off + k * 5 + 3, none⟩ = some (.int .u8 x.c) ∧ w'.cell? ⟨b, off + k * 5 + 4, none⟩ = some (.slice Ax mx cx)) 11 (by kernel_rfl) ⟨x4, z4, e0, e1, e2, e3, e4⟩ (fun hHeld => ?_)
            refine wpAnyT_take (i := 0) (v := ?_) rfl (by kernel_rfl) (by kernel_rfl) (by kernel_rfl) (by kernel_rfl) (fun _ _ _ h => h) (Or.inl ⟨by rfl, ?_⟩) (by assumption) ?_
            rotate_left
            · (intro w hSw; (try dsimp only at hSw); first | (go_simp; done) | (go_simp; with_reducible rfl))
            try simp only [Act.put, List.getElem_toArray, List.getElem_cons_zero, List.getElem_cons_succ, List.setIfInBounds_toArray, List.set_cons_zero, List.set_cons_succ]
            refine wpAnyT_take (i := 1) (v := ?_) rfl (by kernel_rfl) (by kernel_rfl) (by kernel_rfl) (by kernel_rfl) (fun _ _ _ h => h) (Or.inl ⟨by rfl, ?_⟩) (by assumption) ?_
            rotate_left
            · (intro w hSw; (try dsimp only at hSw); first | (go_simp; done) | (go_simp; with_reducible rfl))
            try simp only [Act.put, List.getElem_toArray, List.getElem_cons_zero, List.getElem_cons_succ, List.setIfInBounds_toArray, List.set_cons_zero, List.set_cons_succ]
            refine wpAnyT_take (i := 2) (v := ?_) rfl (by kernel_rfl) (by kernel_rfl) (by kernel_rfl) (by kernel_rfl) (fun _ _ _ h => h) (Or.inl ⟨by rfl, ?_⟩) (by assumption) ?_
            rotate_left
            · (intro w hSw; (try dsimp only at hSw); first | (go_simp; done) | (go_simp; with_reducible rfl))
            try simp only [Act.put, List.getElem_toArray, List.getElem_cons_zero, List.getElem_cons_succ, List.setIfInBounds_toArray, List.set_cons_zero, List.set_cons_succ]
            refine wpAnyT_take (i := 3) (v := ?_) rfl (by kernel_rfl) (by kernel_rfl) (by kernel_rfl) (by kernel_rfl) (fun _ _ _ h => h) (Or.inl ⟨by rfl, ?_⟩) (by assumption) ?_
            rotate_left
            · (intro w hSw; (try dsimp only at hSw); first | (go_simp; done) | (go_simp; with_reducible rfl))
            try simp only [Act.put, List.getElem_toArray, List.getElem_cons_zero, List.getElem_cons_succ, List.setIfInBounds_toArray, List.set_cons_zero, List.set_cons_succ]
            refine wpAnyT_take (i := 4) (v := ?_) rfl (by kernel_rfl) (by kernel_rfl) (by kernel_rfl) (by kernel_rfl) (fun _ _ _ h => h) (Or.inl ⟨by rfl, ?_⟩) (by assumption) ?_
            rotate_left
            · (intro w hSw; (try dsimp only at hSw); first | (go_simp; done) | (go_simp; with_reducible rfl))
            try simp only [Act.put, List.getElem_toArray, List.getElem_cons_zero, List.getElem_cons_succ, List.setIfInBounds_toArray, List.set_cons_zero, List.set_cons_succ]
            refine wpAnyT_take (i := 5) (v := ?_) rfl (by kernel_rfl) (by kernel_rfl) (by kernel_rfl) (by kernel_rfl) (fun _ _ _ h => h) (Or.inl ⟨by rfl, ?_⟩) (by assumption) ?_
            rotate_left
            · (intro w hSw; (try dsimp only at hSw); first | (go_simp; done) | (go_simp; with_reducible rfl))
            try simp only [Act.put, List.getElem_toArray, List.getElem_cons_zero, List.getElem_cons_succ, List.setIfInBounds_toArray, List.set_cons_zero, List.set_cons_succ]
            refine wpAnyT_take (i := 6) (v := ?_) rfl (by kernel_rfl) (by kernel_rfl) (by kernel_rfl) (by kernel_rfl) (fun _ _ _ h => h) (Or.inl ⟨by rfl, ?_⟩) (by assumption) ?_
            rotate_left
            · (intro w hSw; (try dsimp only at hSw); first | (go_simp; done) | (go_simp; with_reducible rfl))
            try simp only [Act.put, List.getElem_toArray, List.getElem_cons_zero, List.getElem_cons_succ, List.setIfInBounds_toArray, List.set_cons_zero, List.set_cons_succ]
            refine wpAnyT_take (i := 7) (v := ?_) rfl (by kernel_rfl) (by kernel_rfl) (by kernel_rfl) (by kernel_rfl) (fun _ _ _ h => h) (Or.inl ⟨by rfl, ?_⟩) (by assumption) ?_
            rotate_left
            · (intro w hSw; (try dsimp only at hSw); first | (go_simp; done) | (go_simp; with_reducible rfl))
            try simp only [Act.put, List.getElem_toArray, List.getElem_cons_zero, List.getElem_cons_succ, List.setIfInBounds_toArray, List.set_cons_zero, List.set_cons_succ]
            refine wpAnyT_step (i := 8) (by kernel_rfl) rfl (fun K hK => ?_)
            (go_simp; refine (Hq.out _ hbd).mono ?_; rintro e w1 ⟨A7, m7, c7, rfl, h7, hb7⟩; have hb1 : Below wr.heap.size wr w1 := hbd.trans (hb7.mono hbd.size); have Hb1 := Lib.hid hb1; have H7 := Lib.hid h7; have hs1 := hb1.size; clear h7 hb7 hb1)
            refine hK.out _ _ ⟨(Hb1.out.cell (p := ⟨w.heap.size + 1 + 1, 4, none⟩) hgs).trans x4, (Hb1.out.cell (p := ⟨w.heap.size, 4, none⟩) hps).trans z4, (Hb1.out.cell (p := ⟨b, off + k * 5, none⟩) hbr).trans e0, (Hb1.out.cell (p := ⟨b, off + k * 5 + 1, none⟩) hbr).trans e1, (Hb1.out.cell (p := ⟨b, off + k * 5 + 2, none⟩) hbr).trans e2, (Hb1.out.cell (p := ⟨b, off + k * 5 + 3, none⟩) hbr).trans e3, (Hb1.out.cell (p := ⟨b, off + k * 5 + 4, none⟩) hbr).trans e4⟩ ?_
            clear hK K
            try simp only [Act.put, List.getElem_toArray, List.getElem_cons_zero, List.getElem_cons_succ, List.setIfInBounds_toArray, List.set_cons_zero, List.set_cons_succ]
            have y4 := (Hb1.out.cell (p := ⟨w.heap.size + 1 + 1, 4, none⟩) hgs).trans x4
            have t4 := (Hb1.out.cell (p := ⟨w.heap.size, 4, none⟩) hps).trans z4
            have g0 := (Hb1.out.cell (p := ⟨b, off + k * 5, none⟩) hbr).trans e0
            have g1 := (Hb1.out.cell (p := ⟨b, off + k * 5 + 1, none⟩) hbr).trans e1
            have g2 := (Hb1.out.cell (p := ⟨b, off + k * 5 + 2, none⟩) hbr).trans e2
            have g3 := (Hb1.out.cell (p := ⟨b, off + k * 5 + 3, none⟩) hbr).trans e3
            have g4 := (Hb1.out.cell (p := ⟨b, off + k * 5 + 4, none⟩) hbr).trans e4
            have hgs1 : w.heap.size + 1 + 1 < w1.heap.size := by omega
            have hps1 : w.heap.size < w1.heap.size := by omega
            have hbr1 : b < w1.heap.size := by omega
            clear x4 z4 e0 e1 e2 e3 e4
            refine wpAnyT_step (i := 8 + 1) (by kernel_rfl) rfl (fun K hK => ?_)
            go_simp
            refine hK.out _ _ ⟨(World.cell?_alloc_lt _ _ ⟨w.heap.size + 1 + 1, 4, none⟩ hgs1).trans y4, (World.cell?_alloc_lt _ _ ⟨w.heap.size, 4, none⟩ hps1).trans t4, (World.cell?_alloc_lt _ _ ⟨b, off + k * 5, none⟩ hbr1).trans g0, (World.cell?_alloc_lt _ _ ⟨b, off + k * 5 + 1, none⟩ hbr1).trans g1, (World.cell?_alloc_lt _ _ ⟨b, off + k * 5 + 2, none⟩ hbr1).trans g2, (World.cell?_alloc_lt _ _ ⟨b, off + k * 5 + 3, none⟩ hbr1).trans g3, (World.cell?_alloc_lt _ _ ⟨b, off + k * 5 + 4, none⟩ hbr1).trans g4⟩ ?_
            clear hK K
            try simp only [Act.put, List.getElem_toArray, List.getElem_cons_zero, List.getElem_cons_succ, List.setIfInBounds_toArray, List.set_cons_zero, List.set_cons_succ]
            have hs0 := HO.out.2.1.lt
            have hcV : CelsV w1 (fun b => b < w1.heap.size ∧ some b ≠ (Value.slice A5 X.length c5).ownBlock ∧ ¬ (Kb ≤ b ∧ b < w.heap.size + 1 + 1 + 1)) (encT u) [.int .u8 u.k, .int .i64 u.n, .int .i64 u.v, .int .u8 u.c, .slice A7 m7 c7] := tyC (H7.out.mono fun q hq => by
              rcases hq with hq | hq
              · refine ⟨by omega, fun e => ?_, by omega⟩
                have := (hs0 q e.symm).1
                omega
              · have hq1 : wr.heap.size ≤ q := hq.1
                refine ⟨hq.2, fun e => ?_, by omega⟩
                have := (hs0 q e.symm).2
                omega)
            have hO1 := HO.out.2.1.beyond Hb1.out
            have hlk := Hlk.out
            rw [hlk] at hcV hO1
            have HcV := Lib.hid hcV
            have HO1 := Lib.hid hO1
            have HB1 := Lib.hid (Hbel.out.trans (Hb1.out.mono (by omega)))
            clear hcV hO1 hs0 H7
            refine wpAnyT_step (i := 8 + 2) (by kernel_rfl) rfl (fun K hK => ?_)
            (refine step_append_cel W7 w1 (by rfl) (.tmp 52) (.tmp 60) 25 (by rfl) (w.heap.size + 1 + 1 + 1) 27 i0 _ 5 56 Tryd.underlying25 hi0 hz0 hz1 hz2 rfl (by omega) (fun b => Kb ≤ b ∧ b < w.heap.size + 1 + 1 + 1) (.slice A5 k c5) k _ (by rfl) [.int .u8 u.k, .int .i64 u.n, .int .i64 u.v, .int .u8 u.c, .slice A7 m7 c7] (encT u) rfl (by intro u hu; simp at hu; rcases hu with rfl | rfl | rfl | rfl | rfl <;> rfl) (by rfl) HO1.out HcV.out (by unfold maxLen; have := mayT_len HM.out; omega) (by have := mayT_len HM.out; omega) HB1.out (by omega) (by omega) ?_; intro A8 c8 w8 ho8 hbel8 hg8 hsz8 _; have hgb : some (w.heap.size + 1 + 1) ≠ (Value.slice A5 k c5).ownBlock := (fun e => by have := (HO1.out.lt _ e.symm).1; omega); have hpb : some w.heap.size ≠ (Value.slice A5 k c5).ownBlock := (fun e => by have := (HO1.out.lt _ e.symm).1; omega); have hbb : some b ≠ (Value.slice A5 k c5).ownBlock := (fun e => by have := (HO1.out.lt _ e.symm).1; omega); have hcg : ∀ j, w8.cell? ⟨w.heap.size + 1 + 1, j, none⟩ = w1.cell? ⟨w.heap.size + 1 + 1, j, none⟩ := (fun j => World.cell?_of_block (hg8.block (w.heap.size + 1 + 1) hgs1 hgb)); have hcp : ∀ j, w8.cell? ⟨w.heap.size, j, none⟩ = w1.cell? ⟨w.heap.size, j, none⟩ := (fun j => World.cell?_of_block (hg8.block w.heap.size hps1 hpb)); have hcb : ∀ j, w8.cell? ⟨b, j, none⟩ = w1.cell? ⟨b, j, none⟩ := (fun j => World.cell?_of_block (hg8.block b hbr1 hbb)))
            refine hK.out _ _ ⟨(hcg _).trans y4, (hcp _).trans t4, (hcb _).trans g0, (hcb _).trans g1, (hcb _).trans g2, (hcb _).trans g3, (hcb _).trans g4⟩ ?_
            clear hK K
            try simp only [Act.put, List.getElem_toArray, List.getElem_cons_zero, List.getElem_cons_succ, List.setIfInBounds_toArray, List.set_cons_zero, List.set_cons_succ]
            have q4 := (hcg 4).trans y4
            have qf : w8.frozen? ⟨w.heap.size + 1 + 1, 4, none⟩ = false := ((HO.out.1.below Hb1.out HO.out.1.lt).grown hg8 hgb).frozen 4
            have Hpush : Hid (OutAt (w8.setCell ⟨w.heap.size + 1 + 1, 4, none⟩ (.slice A8 (k + 1) c8)) (w.heap.size + 1 + 1) (w.heap.size + 1 + 1 + 1) (fun b => Kb ≤ b ∧ b < w.heap.size + 1 + 1 + 1) t.k (t.n) (t.v) (t.c) ((t.l.take (k + 1)).map U) A8 c8) := by
              have h := OutAt.push (HO.out.below Hb1.out) (A6 := A8) (c6 := c8) (w' := w8) u
              rw [Hlk.out] at h
              rw [Hst.out]
              exact Lib.hid (h ho8 hg8)
            have Hb8 := Lib.hid (hbel8.setCell (p := ⟨w.heap.size + 1 + 1, 4, none⟩) (Nat.le_refl _) (.slice A8 (k + 1) c8))
            clear hcg hcp hcb hgb hpb hbb ho8 hbel8 hg8 y4 t4 g0 g1 g2 g3 g4
            refine wpAnyT_seq 11 (by omega) (by rfl) (by kernel_rfl) ?_
            simp only [List.drop_succ_cons, List.drop_zero]
            go_wp2_with fail
            refine NoPanic.normal ?_
            clear q4 qf
            go_wp2_with fail
            go_roundg (m - (k + 1))
            case measure => omega
            case rel => exact ⟨k + 1, A8, c8, by omega, rfl, by go_num, Hpush.out, Hb8.out⟩
          · have d0 : decide (k < m) = false := by simpa using hkm
            have hall : t.l.take k = t.l := List.take_of_length_le (by omega)
            rw [hall] at hO
            have hT := OutAt.done (s := w.heap.size + 1 + 1 + 1) hO (Nat.le_refl _) (by omega)
            have hlm : (t.l.map U).length = m := by rw [List.length_map]; exact hlen
            have hk5 := hO.1
            rw [hlm] at hk5 hT
            have x0 := hk5.cell 0
            have x1 := hk5.cell 1
            have x2 := hk5.cell 2
            have x3 := hk5.cell 3
            have x4 := hk5.cell 4
            have hyr := Hy7.out.below hbel (by omega)
            have s0 := hyr.frozen 0
            have s1 := hyr.frozen 1
            have s2 := hyr.frozen 2
            have s3 := hyr.frozen 3
            have s4 := hyr.frozen 4
            have r0 := hyr.cell 0
            have r1 := hyr.cell 1
            have r2 := hyr.cell 2
            have r3 := hyr.cell 3
            have r4 := hyr.cell 4
            have hg1 : w.heap.size ≤ w.heap.size + 1 := by omega
            have Hyr := Lib.hid hyr
            have HT5 := Lib.hid hT
            have HbF := Lib.hid hW7r
            clear hO hk5 hT hyr hall hlm hbel hzr hW7r
            go_wp2_with fail
            have hyr := Hyr.out
            have hW7r := HbF.out
            have hs9 := ((((hyr.set_ 0 (.int .u8 (t.k))).set_ 1 (.int .i64 ((t.n)))).set_ 2 (.int .i64 (t.v))).set_ 3 (.int .u8 (t.c))).set_ 4 (.slice A5 m c5)
            have hb9 := ((((hW7r.setCell (p := ⟨w.heap.size + 1, 0, none⟩) hg1 (.int .u8 (t.k))).setCell (p := ⟨w.heap.size + 1, 1, none⟩) hg1 (.int .i64 ((t.n)))).setCell (p := ⟨w.heap.size + 1, 2, none⟩) hg1 (.int .i64 (t.v))).setCell (p := ⟨w.heap.size + 1, 3, none⟩) hg1 (.int .u8 (t.c))).setCell (p := ⟨w.heap.size + 1, 4, none⟩) hg1 (.slice A5 m c5)
            generalize hW9 : ((((((wr).setCell ⟨w.heap.size + 1, 0, none⟩ (.int .u8 (t.k))).setCell ⟨w.heap.size + 1, 1, none⟩ (.int .i64 ((t.n)))).setCell ⟨w.heap.size + 1, 2, none⟩ (.int .i64 (t.v))).setCell ⟨w.heap.size + 1, 3, none⟩ (.int .u8 (t.c))).setCell ⟨w.heap.size + 1, 4, none⟩ (.slice A5 m c5)) = W9 at hs9 hb9 ⊢
            replace hs9 : Blk W9 (w.heap.size + 1) 27 #[.int .u8 (t.k), .int .i64 ((t.n)), .int .i64 (t.v), .int .u8 (t.c), .slice A5 m c5] := hs9
            have d0' : W9.cell? ⟨w.heap.size + 1, 0, none⟩ = some (.int .u8 (t.k)) := hs9.cell 0
            have d1' : W9.cell? ⟨w.heap.size + 1, 1, none⟩ = some (.int .i64 ((t.n))) := hs9.cell 1
            have d2' : W9.cell? ⟨w.heap.size + 1, 2, none⟩ = some (.int .i64 (t.v)) := hs9.cell 2
            have d3' : W9.cell? ⟨w.heap.size + 1, 3, none⟩ = some (.int .u8 (t.c)) := hs9.cell 3
            have d4' : W9.cell? ⟨w.heap.size + 1, 4, none⟩ = some (.slice A5 m c5) := hs9.cell 4
            have hT9 : TysS W9 (fun b => b < Kb ∨ (w.heap.size ≤ b ∧ b < W9.heap.size)) A5 m c5 (t.l.map U) := by
              rw [← hW9]
              refine HT5.out.keep (fun b hb => ?_) fun p hp => ?_
              · rcases hb with hb | hb
                · exact .inl hb
                · exact .inr ⟨by omega, by simpa using hb.2⟩
              · have c1 : ∀ (W' : World) (o : Nat) (v : Value), (W'.setCell ⟨w.heap.size + 1, o, none⟩ v).cell? p = W'.cell? p := fun W' o v => World.cell?_setCell_other _ _ _ _ (fun e => by
                  have e1 : w.heap.size + 1 = p.block := by rw [← e]
                  rcases hp with hp | hp <;> omega)
                rw [c1, c1, c1, c1, c1]
            exact bodyPost_ret (v := .agg #[.int .u8 t.k, .int .i64 (t.n), .int .i64 (t.v), .int .u8 (t.c), .slice A5 m c5]) (by simp [results, Tryd.results66, go_sem, d0', d1', d2', d3', d4']) rfl (by rw [HR.out]; exact ⟨A5, m, c5, rfl, hT9, hb9⟩)
end Go.Proofs.YtidamlkekgnhgaaDoor

/- Contracts: usufructref06.Canon; slices.Equal at ints; strings.Contains at a blank; how texts come in. -/
namespace Go.Proofs.YtidamlkekgnhgaaDoor
set_option linter.unusedVariables false
set_option linter.unusedSimpArgs false
open Go.ChangeShapes Go.WideShapes Go.ChangeAt Go.RowKit Go.Deep Go.Joins

/-- slices.Equal of one list of ints and itself -/
theorem equalI_any {A A' : Option Addr} {n c n' c' : Nat} {us vs : List Int} {w : World} {B B' : Nat} (h : RdI .i64 w B A n c us) (h' : RdI .i64 w B' A' n' c' vs) (he : us = vs) :
    Calls Tryd.prog 37 #[.slice A n c, .slice A' n' c'] w fun e w' => e = .returned (.bool true) ∧ Below w.heap.size w w' := by
  subst he
  have hl := h.len
  have hl' := h'.len
  obtain rfl : n = n' := hl.symm.trans hl'
  have m63 : n ≤ 9223372036854775807 := Nat.le_trans h.2.1 h.2.2
  by_cases h0 : n = 0
  · subst h0
    exact (Tryd.slices_Equal_int_empty A A' c 0 c' w (by omega)).mono fun e w' ⟨he, hw⟩ => ⟨by rw [he]; rfl, by rw [hw]; exact Below.refl _ _⟩
  · obtain ⟨b1, o1, rfl, _, hc1⟩ := h.at_ (by omega)
    obtain ⟨b2, o2, rfl, _, hc2⟩ := h'.at_ (by omega)
    have g : ∀ j, j < us.length → us.getD j 0 = us[j]! := fun j hj => by simp
    refine (Tryd.slices_Equal_int b1 o1 n c b2 o2 n c' us us w (by omega) (by omega) m63 m63 (fun j hj => ?_) (fun j hj => ?_)).mono ?_
    · rw [hc1 j hj, List.getD_eq_getElem?_getD, List.getElem?_eq_getElem hj]; rfl
    · rw [hc2 j hj, List.getD_eq_getElem?_getD, List.getElem?_eq_getElem hj]; rfl
    · rintro e w' ⟨he, q, hw⟩
      exact ⟨by rw [he]; simp, by rw [hw]; exact below_drewN q⟩
/-- has a text a blank? -/
theorem blank_any (s : ByteArray) (w : World) {r : Bool} (hr : decide ((32 : UInt8) ∈ s.data.toList) = r) :
    Calls Tryd.prog 39 #[.string s, .string ⟨#[32]⟩] w fun e w' => e = .returned (.bool r) ∧ w = w' :=
  (Tryd.strings_Contains_one s 32 w).mono fun e w' ⟨he, hw⟩ => ⟨by
    rw [he, ← hr]
    have : decide (0 ≤ Lib.indexByte s.data.toList 32) = decide ((32 : UInt8) ∈ s.data.toList) := by
      rw [decide_eq_decide]
      refine ⟨fun h => ?_, fun h => ?_⟩
      · obtain ⟨o, ho⟩ := Int.eq_ofNat_of_zero_le h
        exact List.mem_of_getElem? (Lib.indexByte_some ho).1
      · have h1 := Lib.indexByte_ge s.data.toList 32
        by_cases h2 : Lib.indexByte s.data.toList 32 = -1
        · obtain ⟨i, hi, e⟩ := List.getElem_of_mem h
          exact absurd (by rw [List.getElem?_eq_getElem hi, e]) (Lib.indexByte_none h2 i)
        · omega
    rw [this], hw.symm⟩

/-! ### texts that come in -/
section
variable {H : Type} {enc : TypeId × Value → H} {w : World}
def NmB (w : World) (v : Value) (d : DataW H) : Prop := ∃ (A : Option Addr) (n c : Nat) (ws : List ByteArray), v = .slice A n c ∧ NmV w w.heap.size A n c ws ∧ n ≤ Rows.uptoBulk d
set_option maxRecDepth 100000 in
theorem rd_nm {r : Reach} {b0 : Nat} {v : Value} {d : DataW H} {ps : List MemPlace} (hval : Value.okWide Tryd.prog w r b0 33 v) (h : DataW.Trod enc Tryd.prog w 0 (fun _ => true) true 33 v d ps) : NmB w v d := by
  obtain ⟨A, n, c, rfl⟩ := okWide_slice Tryd.underlying33 hval
  obtain ⟨fuel, hf⟩ := h
  obtain ⟨A', n', c', ws, Ds, e, h1, h2, h3, h4, h5, h6⟩ := rows_q 1 (fun cs (_ : DataW H) (x : ByteArray) => cs = [.string x]) Tryd.underlying33 (by kernel_rfl) (by omega) hf (fun n cs' D Pl hl ht _ => by
    obtain ⟨s, e, _, _⟩ := DataW.trod_string Tryd.underlying9 ht
    exact ⟨s, e⟩)
  have e' : Value.slice A n c = .slice A' n' c' := by simpa [Value.cells] using e
  have h5' : Rows.uptoBulkAll Ds + 1 ≤ Rows.uptoBulk d := h5
  refine ⟨A', n', c', ws, e', ⟨⟨by simpa using h1, fun hn => ?_⟩, h3, h4⟩, by have := bulk_len Ds; omega⟩
  obtain ⟨b, off, e, hb, hc⟩ := h6 hn
  refine ⟨b, off, e, hb, fun j u hu => ?_⟩
  have hj : j < ws.length := by
    have := (List.getElem?_eq_some_iff.1 hu).1
    simpa using this
  obtain ⟨cs', hcl, hat, rfl⟩ := hc j hj (by omega)
  have h0 := hat 0 (by simp)
  rw [List.getElem?_map, List.getElem?_eq_getElem hj] at hu
  injection hu with hu
  rw [← hu]
  simpa using h0
end

/-! ### Canon -/
set_option maxRecDepth 100000 in
set_option maxHeartbeats 4000000 in
theorem refCanon_any {t u : TyD} (hu : canT t = u) (hm : mayT t = true) (A : Option Addr) (m cp : Nat) (w : World) (hl : TysV w w.heap.size A m cp t.l) (hn : nodes t ≤ 1099511627776) :
    Calls Tryd.prog 38 #[.agg #[.int .u8 t.k, .int .i64 t.n, .int .i64 t.v, .int .u8 t.c, .slice A m cp]] w (RetTy u w) := by
  obtain ⟨W, hW⟩ : ∃ W, (w.alloc (Obj.cells #[.int .u8 t.k, .int .i64 t.n, .int .i64 t.v, .int .u8 t.c, .slice A m cp] 27)).alloc (Obj.cells #[.int .u8 0, .int .i64 0, .int .i64 0, .int .u8 0, .slice none 0 0] 27) = W := ⟨_, rfl⟩
  have hb : Below w.heap.size w W := by rw [← hW]; exact ((Below.refl _ _).alloc (Nat.le_refl _) _).alloc (by simp) _
  have hsz : W.heap.size = w.heap.size + 1 + 1 := by rw [← hW]; simp
  have hz : Blk W w.heap.size 27 #[.int .u8 t.k, .int .i64 t.n, .int .i64 t.v, .int .u8 t.c, .slice A m cp] := by
    rw [← hW]; exact (blk_new w _ _).alloc _
  have hy : Blk W (w.heap.size + 1) 27 #[.int .u8 0, .int .i64 0, .int .i64 0, .int .u8 0, .slice none 0 0] := by
    rw [← hW]; have := blk_new (w.alloc (Obj.cells #[.int .u8 t.k, .int .i64 t.n, .int .i64 t.v, .int .u8 t.c, .slice A m cp] 27)) #[.int .u8 0, .int .i64 0, .int .i64 0, .int .u8 0, .slice none 0 0] 27
    rwa [World.size_alloc] at this
  obtain ⟨l1, h1⟩ : ∃ l, varsT t = l := ⟨_, rfl⟩
  obtain ⟨l2, h2⟩ : ∃ l, multsT t = l := ⟨_, rfl⟩
  have hlW := TysV.fresh hl hb
  have HW := Lib.hid hW
  have Hb := Lib.hid hb
  have Hz := Lib.hid hz
  have Hy := Lib.hid hy
  have HL := Lib.hid hlW
  have Hq := Lib.hid (refVars_any h1 h2 A m cp W hlW hn)
  have HU : Hid (ren (idxN l1) (idxN l2) t = u) := Lib.hid (by rw [← hu, ← h1, ← h2]; rfl)
  have Hm := Lib.hid hm
  clear hW hb hz hy h1 h2 hlW hl hn hm hu
  go_enter Tryd.func38, Tryd.ntmps38
  go_wp2_with fail
  rw [HW.out]
  refine Hq.out.mono ?_; rintro e w1 ⟨A1, n1, c1, A2, n2, c2, rfl, hr1, hr2, hb1⟩
  obtain ⟨W2, hW2⟩ : ∃ W2, w1.alloc (Obj.cells #[.slice A1 n1 c1, .slice A2 n2 c2] 62) = W2 := ⟨_, rfl⟩
  have hbx := below_box (w := w1) (Obj.cells #[.slice A1 n1 c1, .slice A2 n2 c2] 62)
  have hx := blk_new w1 #[.slice A1 n1 c1, .slice A2 n2 c2] 62
  rw [hW2] at hbx hx
  have hb12 := hb1.trans (hbx.mono hb1.size)
  have hs2 : SnR W2 w1.heap.size A1 n1 c1 l1 A2 n2 c2 l2 := ⟨hx.lt, hx.cell 0, hx.cell 1, RdI.fresh hr1 hbx, RdI.fresh hr2 hbx⟩
  have hz2 := Hz.out.below hb12 Hz.out.lt
  have hy2 := Hy.out.below hb12 Hy.out.lt
  have z0 := hz2.cell 0
  have z1 := hz2.cell 1
  have z2 := hz2.cell 2
  have z3 := hz2.cell 3
  have z4 := hz2.cell 4
  have hq := refCanon_go 0 w1.heap.size A1 n1 c1 l1 A2 n2 c2 l2 (nodes t) t (Nat.le_refl _) Hm.out A m cp W2 (TysV.fresh HL.out hb12) (Nat.zero_le _) hs2
  rw [HU.out] at hq
  have hw2 := Hb.out.trans (hb12.mono Hb.out.size)
  rw [← hW2] at z0 z1 z2 z3 z4
  have HW2 := Lib.hid hW2
  have Hq2 := Lib.hid hq
  have Hw2 := Lib.hid hw2
  have Hy2 := Lib.hid hy2
  clear hW2 hbx hx hb12 hs2 hz2 hy2 hq hw2 hr1 hr2 hb1 Hq Hz Hy HL
  go_wp2_with fail
  rw [HW2.out]
  refine Hq2.out.mono ?_; rintro e w3 ⟨A5, m5, c5, rfl, h5, hb3⟩
  have hyr := Hy2.out.below hb3 Hy2.out.lt
  have hW3 := Hw2.out.trans (hb3.mono Hw2.out.size)
  have s0 := hyr.frozen 0
  have s1 := hyr.frozen 1
  have s2 := hyr.frozen 2
  have s3 := hyr.frozen 3
  have s4 := hyr.frozen 4
  have r0 := hyr.cell 0
  have r1 := hyr.cell 1
  have r2 := hyr.cell 2
  have r3 := hyr.cell 3
  have r4 := hyr.cell 4
  have hs3 := hb3.size
  have hs2 := Hw2.out.size
  have hlt2 := Hy2.out.lt
  have hg1 : w.heap.size ≤ w.heap.size + 1 := by omega
  have Hyr := Lib.hid hyr
  have H5 := Lib.hid h5
  have HbF := Lib.hid hW3
  clear hyr h5 hW3 z0 z1 z2 z3 z4 hb3
  go_wp2_with fail
  have hyr := Hyr.out
  have hW3 := HbF.out
  have hs9 := ((((hyr.set_ 0 (.int .u8 (u.k))).set_ 1 (.int .i64 (u.n))).set_ 2 (.int .i64 (u.v))).set_ 3 (.int .u8 (u.c))).set_ 4 (.slice A5 m5 c5)
  have hb9 := ((((hW3.setCell (p := ⟨w.heap.size + 1, 0, none⟩) hg1 (.int .u8 (u.k))).setCell (p := ⟨w.heap.size + 1, 1, none⟩) hg1 (.int .i64 (u.n))).setCell (p := ⟨w.heap.size + 1, 2, none⟩) hg1 (.int .i64 (u.v))).setCell (p := ⟨w.heap.size + 1, 3, none⟩) hg1 (.int .u8 (u.c))).setCell (p := ⟨w.heap.size + 1, 4, none⟩) hg1 (.slice A5 m5 c5)
  generalize hW9 : ((((((w3).setCell ⟨w.heap.size + 1, 0, none⟩ (.int .u8 (u.k))).setCell ⟨w.heap.size + 1, 1, none⟩ (.int .i64 (u.n))).setCell ⟨w.heap.size + 1, 2, none⟩ (.int .i64 (u.v))).setCell ⟨w.heap.size + 1, 3, none⟩ (.int .u8 (u.c))).setCell ⟨w.heap.size + 1, 4, none⟩ (.slice A5 m5 c5)) = W9 at hs9 hb9 ⊢
  replace hs9 : Blk W9 (w.heap.size + 1) 27 #[.int .u8 (u.k), .int .i64 (u.n), .int .i64 (u.v), .int .u8 (u.c), .slice A5 m5 c5] := hs9
  have d0' : W9.cell? ⟨w.heap.size + 1, 0, none⟩ = some (.int .u8 (u.k)) := hs9.cell 0
  have d1' : W9.cell? ⟨w.heap.size + 1, 1, none⟩ = some (.int .i64 (u.n)) := hs9.cell 1
  have d2' : W9.cell? ⟨w.heap.size + 1, 2, none⟩ = some (.int .i64 (u.v)) := hs9.cell 2
  have d3' : W9.cell? ⟨w.heap.size + 1, 3, none⟩ = some (.int .u8 (u.c)) := hs9.cell 3
  have d4' : W9.cell? ⟨w.heap.size + 1, 4, none⟩ = some (.slice A5 m5 c5) := hs9.cell 4
  have hT9 : TysS W9 (fun b => b < W9.heap.size) A5 m5 c5 u.l := by
    rw [← hW9]
    refine H5.out.keep (fun b hb => ?_) fun p hp => ?_
    · rcases hb with hb | hb
      · exact absurd hb (by omega)
      · simpa using hb.2
    · have c1 : ∀ (W' : World) (o : Nat) (v : Value), (W'.setCell ⟨w.heap.size + 1, o, none⟩ v).cell? p = W'.cell? p := fun W' o v => World.cell?_setCell_other _ _ _ _ (fun e => by
        have e1 : w.heap.size + 1 = p.block := by rw [← e]
        rcases hp with hp | hp <;> omega)
      rw [c1, c1, c1, c1, c1]
  exact bodyPost_ret (v := .agg #[.int .u8 u.k, .int .i64 u.n, .int .i64 u.v, .int .u8 u.c, .slice A5 m5 c5]) (by simp [results, Tryd.results38, go_sem, d0', d1', d2', d3', d4']) rfl ⟨A5, m5, c5, rfl, hT9.lt fun b hb => hb, hb9⟩
end Go.Proofs.YtidamlkekgnhgaaDoor

/- Plain laws of TyPuts: what Put tells, by its error. No program's function. -/
namespace Go.Proofs.YtidamlkekgnhgaaDoor
set_option linter.unusedVariables false
set_option linter.unusedSimpArgs false
open Go.RowKit

def nilT : TyD := .mk 0 0 0 0 []
theorem put_bad {t : TyD} {types : List TyD} {ms : List (Int × Int)} (h : putBad t types ms = true) : putE t types ms = 2 ∧ putT t types ms = nilT := by
  have h1 : putE t types ms = 2 := by unfold putE; rw [if_pos h]
  exact ⟨h1, by unfold putT; rw [if_neg (by rw [h1]; decide)]; rfl⟩
theorem turn_le {t : TyD} {types : List TyD} (fm : Int → Int × Int) (ht : Fit t) (hts : ∀ u ∈ types, Fit u) : nodes (turnT (putV types) fm t) ≤ 90000 := by
  have hs : ∀ u ∈ types, sizeW u = nodes u := fun u hu => sizeW_small (by have := (hts u hu).2; omega)
  have hle := grownN_le (sz := types.map sizeW) (fun s hs' => by
    obtain ⟨u, hu, rfl⟩ := List.mem_map.1 hs'
    rw [hs u hu]
    have := (hts u hu).2
    omega) t
  have hg : grownN (types.map sizeW) t = nodes (turnT (putV types) fm t) := by
    refine grown_nodes (fun n hn => (allV_nonneg ht.1 n hn).1) (fun n hn => ?_) ht.1
    have h0 := (allV_nonneg ht.1 n hn).1
    rw [List.length_map]
    unfold putV
    by_cases hlt : n < types.length
    · have hi : n.toNat < types.length := by omega
      have h1 := hs _ (List.getElem_mem hi)
      rw [if_pos hlt, if_pos hlt, List.getD_eq_getElem?_getD, List.getElem?_map, List.getElem?_eq_getElem hi, Option.map_some, Option.map_some, Option.getD_some, Option.getD_some]
      exact h1
    · rw [if_neg hlt, if_neg hlt]; rfl
  have h2 := ht.2
  rw [hg] at hle
  omega
/-- where nothing is bad: too long, or put -/
theorem put_good {t : TyD} {types : List TyD} {ms : List (Int × Int)} (hb : nodes t ≤ 1048576) (hbs : ∀ u ∈ types, nodes u ≤ 1048576) (h : putBad t types ms = false) :
    (sizeW (turnT (putV types) (putM ms) t) > 300 → putE t types ms = 3 ∧ putT t types ms = nilT) ∧
    (¬ sizeW (turnT (putV types) (putM ms) t) > 300 → putE t types ms = 0 ∧ putT t types ms = turnT (putV types) (putM ms) t) := by
  obtain ⟨h1, h2, h3⟩ := (putBad_iff hb hbs).1 h
  have hg := grown_is (putM ms) h1 h2
  have hl := turn_le (putM ms) h1 h2
  have hs : sizeW (turnT (putV types) (putM ms) t) = nodes (turnT (putV types) (putM ms) t) := sizeW_small (by omega)
  rw [hs]
  refine ⟨fun hc => ?_, fun hc => ?_⟩
  · have e : putE t types ms = 3 := by unfold putE; rw [if_neg (by rw [h]; decide), hg, if_pos (by omega)]
    exact ⟨e, by unfold putT; rw [if_neg (by rw [e]; decide)]; rfl⟩
  · have e : putE t types ms = 0 := by unfold putE; rw [if_neg (by rw [h]; decide), hg, if_neg (by omega)]
    exact ⟨e, putT_of e⟩
theorem bad_eq (t : TyD) (types : List TyD) (ms : List (Int × Int)) : ((mayTE t == 0) && types.all (fun y => mayTE y == 0) && ms.all (fun x => isB x.2 x.1)) = !putBad t types ms := by
  unfold putBad
  rw [Bool.not_or, Bool.not_or]
  congr 1
  · congr 1
    · simp [bne]
    · induction types with
      | nil => rfl
      | cons x l ih => rw [List.all_cons, List.any_cons, Bool.not_or, ih]; simp [bne]
  · induction ms with
    | nil => rfl
    | cons x l ih => rw [List.all_cons, List.any_cons, Bool.not_or, ih]; simp
theorem may_of_good {t : TyD} {types : List TyD} {ms : List (Int × Int)} (h : putBad t types ms = false) : mayT t = true := by
  unfold putBad at h
  rw [Bool.or_eq_false_iff, Bool.or_eq_false_iff] at h
  exact mayTE_zero h.1.1
end Go.Proofs.YtidamlkekgnhgaaDoor

