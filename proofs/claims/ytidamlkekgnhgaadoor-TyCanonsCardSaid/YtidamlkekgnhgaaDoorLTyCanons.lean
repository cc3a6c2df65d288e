/- TyCanons holds: what is numbered anew is numbered so, comes back by its numbers, and is the same for each other numbering. Conditions: the variables that the row lists are laid as the program's text lays them. -/
import Derived.Test.YtidamlkekgnhgaaDoorTWc
import Derived.Test.YtidamlkekgnhgaaDoorLawE
import Derived.Test.YtidamlkekgnhgaaDoorRowH
import Derived.Deep.DeepHandedRow
import Derived.Deep.DeepCutAuto
import Derived.Deep.CutBlock
import Derived.Outline
namespace Go.Proofs.YtidamlkekgnhgaaDoor
set_option linter.unusedVariables false
set_option linter.unusedSimpArgs false
open Go.ChangeShapes Go.WideShapes Go.ChangeAt Go.RowKit

set_option maxRecDepth 100000 in
set_option maxHeartbeats 8000000 in
theorem walk_tyCanons {H : Type} {d0 : DataW H} {w : World} (ht : Tab w) (v0 : Value) (h0 : TyB w v0 d0) (s : Int) (hs : -9223372036854775808 ≤ s ∧ s ≤ 9223372036854775807) :
    Calls Tryd.prog 7 #[v0, .int .i64 s] w fun e w' => e = .returned (.bool true) ∧ Below w.heap.size w w' := by
  obtain ⟨t, A, m, cp, rfl, ha, _⟩ := h0
  obtain ⟨W, h2⟩ := one_new t A m cp w ha
  obtain ⟨r, hr⟩ : ∃ r, greatB [t] = r := ⟨_, rfl⟩
  obtain ⟨xa, hxa⟩ : ∃ x, mayTE t = x := ⟨_, rfl⟩
  have Hg := Lib.hid (great_at hr _ _ _ W h2.row)
  have H2 := Lib.hid h2
  have Heq := Lib.hid h2.eq
  have Ht := Lib.hid ht
  have hsz : W.heap.size = w.heap.size + 1 + 1 := h2.size
  have Hxa := Lib.hid hxa
  clear h2 ht ha hr hxa
  go_enter Tryd.func7, Tryd.ntmps7
  go_wp2_with fail
  rw [Heq.out]
  refine Hg.out.mono ?_; rintro e w1 ⟨rfl, hb1⟩
  have hw1 := H2.out.bel.trans (hb1.mono H2.out.bel.size)
  cases r with
  | true =>
    go_wp2_with fail
    refine (worksTy_any w1 (Ht.out.below hw1)).mono ?_; rintro e w9 ⟨rfl, hb9⟩
    go_wp2_with fail
    go_ret
    exact ⟨rfl, hw1.trans (hb9.mono hw1.size)⟩
  | false =>
    have B1 := Lib.hid (H2.out.bt.fresh hb1)
    obtain ⟨a0, a1, a2, a3, a4⟩ := B1.out.five
    clear hb1 Hg
    go_wp2_with fail
    refine (tyMay_at Hxa.out A m cp w1 B1.out.2).mono ?_; rintro e w2 ⟨rfl, hb2⟩
    have hw2 := hw1.trans (hb2.mono hw1.size)
    clear a0 a1 a2 a3 a4
    by_cases h0 : xa = 0
    · have d0 : (xa != 0) = false := by simp [h0]
      have hf : mayTE t = 0 := Hxa.out.trans h0
      have hf1 := (mayTE_facts hf).1
      by_cases hs1 : s < 1
      · have d1 : decide (s < 1) = true := by simpa using hs1
        clear hb2
        go_wp2_with fail
        refine (worksTy_any w2 (Ht.out.below hw2)).mono ?_; rintro e w9 ⟨rfl, hb9⟩
        go_wp2_with fail
        go_ret
        exact ⟨rfl, hw2.trans (hb9.mono hw2.size)⟩
      · have d1 : decide (s < 1) = false := by simpa using hs1
        by_cases hs5 : s > 5
        · have d2 : decide (s > 5) = true := by simpa using hs5
          clear hb2
          go_wp2_with fail
          refine (worksTy_any w2 (Ht.out.below hw2)).mono ?_; rintro e w9 ⟨rfl, hb9⟩
          go_wp2_with fail
          go_ret
          exact ⟨rfl, hw2.trans (hb9.mono hw2.size)⟩
        · have d2 : decide (s > 5) = false := by simpa using hs5
          have B2 := Lib.hid (B1.out.fresh hb2)
          obtain ⟨a0, a1, a2, a3, a4⟩ := B2.out.five
          have Hf := Lib.hid hf
          have Hf1 := Lib.hid hf1
          clear hf1
          have Hw2 := Lib.hid hw2
          obtain ⟨c, hc⟩ : ∃ c, canT t = c := ⟨_, rfl⟩
          obtain ⟨l1, hl1⟩ : ∃ l, varsT t = l := ⟨_, rfl⟩
          obtain ⟨l2, hl2⟩ : ∃ l, multsT t = l := ⟨_, rfl⟩
          obtain ⟨k1, hk1⟩ : ∃ l, varsT c = l := ⟨_, rfl⟩
          obtain ⟨k2, hk2⟩ : ∃ l, multsT c = l := ⟨_, rfl⟩
          have hq := canon_u hc hl1 hl2 Hf1.out A m cp w2 B2.out.2
          have Hq := Lib.hid hq
          have Hc := Lib.hid hc
          have Hl1 := Lib.hid hl1
          have Hl2 := Lib.hid hl2
          have Hk1 := Lib.hid hk1
          have Hk2 := Lib.hid hk2
          clear hb2 B1 hf hw2 hw1 hq hc hl1 hl2 hk1 hk2 h0
          go_wp2_with fail
          refine Hq.out.mono ?_; rintro e w3 ⟨A3, m3, c3, A4, n4, c4, A5, n5, c5, rfl, h3, h4, h5, hb3⟩
          obtain ⟨w4, h9⟩ := cans_new c l1 l2 A3 m3 c3 A4 n4 c4 A5 n5 c5 w3 h3 h4 h5
          have hb24 := hb3.trans (h9.bel.mono hb3.size)
          have Hw4 := Lib.hid (Hw2.out.trans (hb24.mono Hw2.out.size))
          have B4 := Lib.hid (B2.out.fresh hb24)
          have C4 := Lib.hid h9.bt
          have D4 := Lib.hid h9.b1
          have E4 := Lib.hid h9.b2
          have He4 := Lib.hid h9.eq
          have hfc : mayT c = true := by rw [← Hc.out]; exact (mayTE_facts (canT_mayTE Hf.out)).1
          have hcc : canT c = c := by rw [← Hc.out]; exact canT_canT Hf1.out
          have hkl1 : k1.length = l1.length := by rw [← Hk1.out, ← Hl1.out, ← Hc.out, canT_vars Hf1.out]; simp
          have hkl2 : k2.length = l2.length := by rw [← Hk2.out, ← Hl2.out, ← Hc.out, canT_mults Hf1.out]; simp
          have hn4 : n4 = l1.length := h4.len.symm
          have hn5 : n5 = l2.length := h5.len.symm
          have Hn4 := Lib.hid hn4
          have Hn5 := Lib.hid hn5
          have Hkl1 := Lib.hid hkl1
          have Hkl2 := Lib.hid hkl2
          have hq2 := canon_u hcc Hk1.out Hk2.out hfc A3 m3 c3 w4 h9.bt.2
          have Hq2 := Lib.hid hq2
          have Hfc := Lib.hid hfc
          clear hn4 hn5 hkl1 hkl2 hb3 hb24 h9 h3 h4 h5 hfc hcc hq2 B2 Hq Hw2 a0 a1 a2 a3 a4
          go_wp2_with fail
          rw [He4.out]
          refine Hq2.out.mono ?_; rintro e w5 ⟨A6, m6, c6, A7, n7, c7, A8, n8, c8, rfl, h6, h7, h8, hb5⟩
          have hbx := below_box (w := w5) (Obj.cells #[.int .u8 c.k, .int .i64 c.n, .int .i64 c.v, .int .u8 c.c, .slice A6 m6 c6] 27)
          have hg := BT.new h6
          have hbxx := hb5.trans (hbx.mono hb5.size)
          obtain ⟨a0, a1, a2, a3, a4⟩ := (C4.out.fresh hbxx).five
          obtain ⟨b0, b1, b2, b3, b4⟩ := hg.five
          have y1 := (D4.out.fresh hbxx).1.cell 0
          have y2 := (E4.out.fresh hbxx).1.cell 0
          obtain ⟨w6, hw6⟩ : ∃ W, w5.alloc (Obj.cells #[.int .u8 c.k, .int .i64 c.n, .int .i64 c.v, .int .u8 c.c, .slice A6 m6 c6] 27) = W := ⟨_, rfl⟩
          rw [hw6] at hbx hg
          have hb46 := hb5.trans (hbx.mono hb5.size)
          have Hw6 := Lib.hid (Hw4.out.trans (hb46.mono Hw4.out.size))
          have B6 := Lib.hid (B4.out.fresh hb46)
          have C6 := Lib.hid (C4.out.fresh hb46)
          have D6 := Lib.hid (D4.out.fresh hb46)
          have E6 := Lib.hid (E4.out.fresh hb46)
          have Heq6 := Lib.hid hw6
          have hn7 : n7 = n4 := by rw [Hn4.out, ← Hkl1.out]; exact h7.len.symm
          have hn8 : n8 = n5 := by rw [Hn5.out, ← Hkl2.out]; exact h8.len.symm
          subst hn7; subst hn8
          have m7 : n7 ≤ 9223372036854775807 := Nat.le_trans h7.2.1 h7.2.2
          have m8 : n8 ≤ 9223372036854775807 := Nat.le_trans h8.2.1 h8.2.2
          have hsm := same_at (a := c) (b := c) ((sameT_iff c c).2 rfl) A3 m3 c3 A6 m6 c6 w6 C6.out.2 hg.2
          have Hsm := Lib.hid hsm
          clear hbxx hbx hb46 hb5 h6 h7 h8 hw6 hg hsm B4 C4 D4 E4 Hw4 Hq2 He4
          go_wp2_with fail
          rw [Heq6.out]
          refine Hsm.out.mono ?_; rintro e w7 ⟨rfl, hb7⟩
          have Hw7 := Lib.hid (Hw6.out.trans (hb7.mono Hw6.out.size))
          have B7 := Lib.hid (B6.out.fresh hb7)
          have C7 := Lib.hid (C6.out.fresh hb7)
          have D7 := Lib.hid (D6.out.fresh hb7)
          have E7 := Lib.hid (E6.out.fresh hb7)
          have u1 := D7.out.1.cell 0
          have u2 := E7.out.1.cell 0
          clear hb7 B6 C6 D6 E6 Hw6 Hsm a0 a1 a2 a3 a4 b0 b1 b2 b3 b4 y1 y2
          go_upto_region 8 with fail
          have HL1 : Hid (∀ x ∈ l1, 0 ≤ x ∧ x < 1048576) := Lib.hid fun x hx => allV_nonneg Hf1.out x (mem_vars.1 (by rw [Hl1.out]; exact hx))
          have HL2 : Hid (∀ x ∈ l2, 0 ≤ x ∧ x < 1048576) := Lib.hid fun x hx => allM_nonneg Hf1.out x (mem_mults.1 (by rw [Hl2.out]; exact hx))
          have b7 : n7 ≤ 1048576 := by
            have e1 := vars_few Hf1.out
            rw [Hl1.out] at e1
            have := D7.out.2.len
            omega
          have Hb7 : Hid (l1.length ≤ 1048576) := Lib.hid (by have := D7.out.2.len; omega)
          have b8 : n8 ≤ 1048576 := by
            have e1 := mults_few Hf1.out
            rw [Hl2.out] at e1
            have := E7.out.2.len
            omega
          obtain ⟨y, hy⟩ : ∃ y, ren (bk s) (bk s) t = y := ⟨_, rfl⟩
          have HP0 : Hid (putE c (l1.map fun n => plainV (bk 0 n)) (l2.map fun v => (bk 0 v, 0)) = 0 ∧ putT c (l1.map fun n => plainV (bk 0 n)) (l2.map fun v => (bk 0 v, 0)) = t) := by
            rw [← Hc.out, ← Hl1.out, ← Hl2.out]
            have := back_putW Hf.out 0
            rw [back_idW Hf1.out] at this
            exact Lib.hid this
          have HPs : Hid (putE c (l1.map fun n => plainV (bk s n)) (l2.map fun v => (bk s v, 0)) = 0 ∧ putT c (l1.map fun n => plainV (bk s n)) (l2.map fun v => (bk s v, 0)) = y) := by
            rw [← Hc.out, ← Hl1.out, ← Hl2.out, ← hy]
            exact Lib.hid (back_putW Hf.out s)
          have Hy := Lib.hid hy
          clear hy
          go_cut [12, 13] (fun x e wx => ∃ gx X mx cx, x = .pointer (some ⟨gx, 0, none⟩) ∧ e = .int .i64 0 ∧ BT wx gx t X mx cx ∧ Below w7.heap.size w7 wx)
          case first =>
            have hd : Below w7.heap.size w7 w7.drew := Below.drew (Below.refl _ _)
            obtain ⟨a0, a1, a2, a3, a4⟩ := C7.out.five
            go_wp2_with fail
            refine wp_region_noPanic ?_
            refine wp_region_T (fun w' => w'.cell? ⟨w3.heap.size, 0, none⟩ = some (.int .u8 c.k) ∧ w'.cell? ⟨w3.heap.size, 1, none⟩ = some (.int .i64 c.n) ∧ w'.cell? ⟨w3.heap.size, 2, none⟩ = some (.int .i64 c.v) ∧ w'.cell? ⟨w3.heap.size, 3, none⟩ = some (.int .u8 c.c) ∧ w'.cell? ⟨w3.heap.size, 4, none⟩ = some (.slice A3 m3 c3)) 18 (by kernel_rfl) ⟨a0, a1, a2, a3, a4⟩ (fun hHeld => ?_)
            generalize w7.drew = w8 at hd hHeld ⊢
            refine wpAnyT_take (i := 0) (v := ?_) rfl (by kernel_rfl) (by kernel_rfl) (by kernel_rfl) (by kernel_rfl) (fun _ _ _ h => h) (Or.inl ⟨by rfl, ?_⟩) (by assumption) ?_
            rotate_left
            · (intro w hSw; (try dsimp only at hSw); first | (go_simp; done) | (go_simp; with_reducible rfl))
            try simp only [Act.put, List.getElem_toArray, List.getElem_cons_zero, List.getElem_cons_succ, List.setIfInBounds_toArray, List.set_cons_zero, List.set_cons_succ]
            refine wpAnyT_take (i := 1) (v := ?_) rfl (by kernel_rfl) (by kernel_rfl) (by kernel_rfl) (by kernel_rfl) (fun _ _ _ h => h) (Or.inl ⟨by rfl, ?_⟩) (by assumption) ?_
            rotate_left
            · (intro w hSw; (try dsimp only at hSw); first | (go_simp; done) | (go_simp; with_reducible rfl))
            try simp only [Act.put, List.getElem_toArray, List.getElem_cons_zero, List.getElem_cons_succ, List.setIfInBounds_toArray, List.set_cons_zero, List.set_cons_succ]
            refine wpAnyT_take (i := 6) (v := ?_) rfl (by kernel_rfl) (by kernel_rfl) (by kernel_rfl) (by kernel_rfl) (fun _ _ _ h => h) (Or.inl ⟨by rfl, ?_⟩) (by assumption) ?_
            rotate_left
            · (intro w hSw; (try dsimp only at hSw); first | (go_simp; done) | (go_simp; with_reducible rfl))
            try simp only [Act.put, List.getElem_toArray, List.getElem_cons_zero, List.getElem_cons_succ, List.setIfInBounds_toArray, List.set_cons_zero, List.set_cons_succ]
            refine wpAnyT_two (i := 2) (j := 15) (by kernel_rfl) rfl rfl (fun K hK => ?_) (fun K hK => ?_)
            · skip
              go_simp; refine (canons1_from (b0 := w7) (by first | exact hd | exact below_alloc hd _) (s := 0) (by omega) (by omega) D7.out E7.out HL1.out HL2.out (by omega) (by omega)).mono ?_; rintro e wp ⟨P1, p1, q1, P2, p2, q2, rfl, hp, hpm, hbp, hbW⟩; (first | (have hzb := (blk_new _ _ _).below hbW (by simp)) | (replace hzb := hzb.below hbW hzb.lt) | skip); have Hp := Lib.hid hp; have szp := hbp.size; clear hp hpm hbW
              refine hK.out _ _ (by first | with_reducible exact (C7.out.fresh hbp).five | with_reducible exact (C7.out.fresh (below_alloc hbp _)).five) ?_
              clear hK K
              try simp only [Act.put, List.getElem_toArray, List.getElem_cons_zero, List.getElem_cons_succ, List.setIfInBounds_toArray, List.set_cons_zero, List.set_cons_succ]
              have hS5 := (C7.out.fresh hbp).five
              refine wpAnyT_take (i := 3) (v := ?_) rfl (by kernel_rfl) (by kernel_rfl) (by kernel_rfl) (by kernel_rfl) (fun _ _ _ h => h) (Or.inl ⟨by rfl, ?_⟩) (by assumption) ?_
              rotate_left
              · (intro w hSw; (try dsimp only at hSw); first | (go_simp; done) | (go_simp; with_reducible rfl))
              try simp only [Act.put, List.getElem_toArray, List.getElem_cons_zero, List.getElem_cons_succ, List.setIfInBounds_toArray, List.set_cons_zero, List.set_cons_succ]
              refine wpAnyT_take (i := 4) (v := ?_) rfl (by kernel_rfl) (by kernel_rfl) (by kernel_rfl) (by kernel_rfl) (fun _ _ _ h => h) (Or.inl ⟨by rfl, ?_⟩) (by assumption) ?_
              rotate_left
              · (intro w hSw; (try dsimp only at hSw); first | (go_simp; done) | (go_simp; with_reducible rfl))
              try simp only [Act.put, List.getElem_toArray, List.getElem_cons_zero, List.getElem_cons_succ, List.setIfInBounds_toArray, List.set_cons_zero, List.set_cons_succ]
              refine wpAnyT_two (i := 5) (j := 15) (by kernel_rfl) rfl rfl (fun K hK => ?_) (fun K hK => ?_)
              · skip
                go_simp; refine (first_any _ _ _ _ _ _ _).mono ?_; rintro e wf ⟨rfl, rfl⟩
                refine hK.out _ _ (by first | with_reducible exact (C7.out.fresh hbp).five | with_reducible exact (C7.out.fresh (below_alloc hbp _)).five) ?_
                clear hK K
                try simp only [Act.put, List.getElem_toArray, List.getElem_cons_zero, List.getElem_cons_succ, List.setIfInBounds_toArray, List.set_cons_zero, List.set_cons_succ]
                refine wpAnyT_two (i := 7) (j := 15) (by kernel_rfl) rfl rfl (fun K hK => ?_) (fun K hK => ?_)
                · skip
                  go_simp; refine (canons1_from (b0 := w7) (by first | exact hbp | exact below_alloc hbp _) (s := 0) (by omega) (by omega) D7.out E7.out HL1.out HL2.out (by omega) (by omega)).mono ?_; rintro e wq ⟨P3, p3, q3, P4, p4, q4, rfl, hp, hpm, hbq, hbW⟩; (first | (have hzb := (blk_new _ _ _).below hbW (by simp)) | (replace hzb := hzb.below hbW hzb.lt) | skip); have hpq : Below wp.heap.size wp wq := (by first | exact hbW | exact below_unalloc hbW); have Hpp := Lib.hid (TysV.fresh Hp.out hpq); have Hpm := Lib.hid hpm; have szq := hpq.size; clear hp hpm hbW hpq
                  refine hK.out _ _ (by first | with_reducible exact (C7.out.fresh hbq).five | with_reducible exact (C7.out.fresh (below_alloc hbq _)).five) ?_
                  clear hK K
                  try simp only [Act.put, List.getElem_toArray, List.getElem_cons_zero, List.getElem_cons_succ, List.setIfInBounds_toArray, List.set_cons_zero, List.set_cons_succ]
                  have hS5 := (C7.out.fresh hbq).five
                  refine wpAnyT_take (i := 8) (v := ?_) rfl (by kernel_rfl) (by kernel_rfl) (by kernel_rfl) (by kernel_rfl) (fun _ _ _ h => h) (Or.inl ⟨by rfl, ?_⟩) (by assumption) ?_
                  rotate_left
                  · (intro w hSw; (try dsimp only at hSw); first | (go_simp; done) | (go_simp; with_reducible rfl))
                  try simp only [Act.put, List.getElem_toArray, List.getElem_cons_zero, List.getElem_cons_succ, List.setIfInBounds_toArray, List.set_cons_zero, List.set_cons_succ]
                  refine wpAnyT_take (i := 9) (v := ?_) rfl (by kernel_rfl) (by kernel_rfl) (by kernel_rfl) (by kernel_rfl) (fun _ _ _ h => h) (Or.inl ⟨by rfl, ?_⟩) (by assumption) ?_
                  rotate_left
                  · (intro w hSw; (try dsimp only at hSw); first | (go_simp; done) | (go_simp; with_reducible rfl))
                  try simp only [Act.put, List.getElem_toArray, List.getElem_cons_zero, List.getElem_cons_succ, List.setIfInBounds_toArray, List.set_cons_zero, List.set_cons_succ]
                  refine wpAnyT_two (i := 10) (j := 15) (by kernel_rfl) rfl rfl (fun K hK => ?_) (fun K hK => ?_)
                  · skip
                    go_simp; refine (second_any _ _ _ _ _ _ _).mono ?_; rintro e wg ⟨rfl, rfl⟩
                    refine hK.out _ _ (by first | with_reducible exact (C7.out.fresh hbq).five | with_reducible exact (C7.out.fresh (below_alloc hbq _)).five) ?_
                    clear hK K
                    try simp only [Act.put, List.getElem_toArray, List.getElem_cons_zero, List.getElem_cons_succ, List.setIfInBounds_toArray, List.set_cons_zero, List.set_cons_succ]
                    refine wpAnyT_two (i := 11) (j := 15) (by kernel_rfl) rfl rfl (fun K hK => ?_) (fun K hK => ?_)
                    · skip
                      go_simp; have hlp : p1 ≤ 1099511627776 := (by have := Hpp.out.1; rw [List.length_map] at this; have := Hb7.out; omega); (first | have hgx := hzb.lt | skip); refine (put_from (b0 := wq) (by first | exact Below.refl _ _ | exact below_box _) HP0.out.2 HP0.out.1 (C7.out.fresh hbq).2 Hpp.out Hpm.out hlp).mono ?_; rintro e wr ⟨X, mx, cx, rfl, hx, hqr, hbW⟩; (first | (have hzb := (blk_new _ _ _).below hbW (by simp)) | (replace hzb := hzb.below hbW hzb.lt) | skip); have hbr := hbq.trans (hqr.mono hbq.size); have HX := Lib.hid hx; have szr := hqr.size; clear hx hbW Hpp Hpm hlp
                      refine hK.out _ _ (by first | with_reducible exact (C7.out.fresh hbr).five | with_reducible exact (C7.out.fresh (below_alloc hbr _)).five) ?_
                      clear hK K
                      try simp only [Act.put, List.getElem_toArray, List.getElem_cons_zero, List.getElem_cons_succ, List.setIfInBounds_toArray, List.set_cons_zero, List.set_cons_succ]
                      have hS5 := (C7.out.fresh hbr).five
                      refine wpAnyT_take (i := 12) (v := ?_) rfl (by kernel_rfl) (by kernel_rfl) (by kernel_rfl) (by kernel_rfl) (fun _ _ _ h => h) (Or.inl ⟨by rfl, ?_⟩) (by assumption) ?_
                      rotate_left
                      · (intro w hSw; (try dsimp only at hSw); first | (go_simp; done) | (go_simp; with_reducible rfl))
                      try simp only [Act.put, List.getElem_toArray, List.getElem_cons_zero, List.getElem_cons_succ, List.setIfInBounds_toArray, List.set_cons_zero, List.set_cons_succ]
                      refine wpAnyT_take (i := 13) (v := ?_) rfl (by kernel_rfl) (by kernel_rfl) (by kernel_rfl) (by kernel_rfl) (fun _ _ _ h => h) (Or.inl ⟨by rfl, ?_⟩) (by assumption) ?_
                      rotate_left
                      · (intro w hSw; (try dsimp only at hSw); first | (go_simp; done) | (go_simp; with_reducible rfl))
                      try simp only [Act.put, List.getElem_toArray, List.getElem_cons_zero, List.getElem_cons_succ, List.setIfInBounds_toArray, List.set_cons_zero, List.set_cons_succ]
                      refine wpAnyT_take (i := 14) (v := ?_) rfl (by kernel_rfl) (by kernel_rfl) (by kernel_rfl) (by kernel_rfl) (fun _ _ _ h => h) (Or.inl ⟨by rfl, ?_⟩) (by assumption) ?_
                      rotate_left
                      · (intro w hSw; (try dsimp only at hSw); first | (go_simp; done) | (go_simp; with_reducible rfl))
                      try simp only [Act.put, List.getElem_toArray, List.getElem_cons_zero, List.getElem_cons_succ, List.setIfInBounds_toArray, List.set_cons_zero, List.set_cons_succ]
                      refine wpAnyT_step (i := 15) (by kernel_rfl) rfl (fun K hK => ?_)
                      go_simp
                      refine hK.out _ _ (by first | with_reducible exact (C7.out.fresh hbr).five | with_reducible exact (C7.out.fresh (below_alloc hbr _)).five) ?_
                      clear hK K
                      try simp only [Act.put, List.getElem_toArray, List.getElem_cons_zero, List.getElem_cons_succ, List.setIfInBounds_toArray, List.set_cons_zero, List.set_cons_succ]
                      (first | (have zc0 := hzb.cell 0; have zc1 := hzb.cell 1; have zc2 := hzb.cell 2; have zc3 := hzb.cell 3; have zc4 := hzb.cell 4; have zf0 := hzb.frozen 0; have zf1 := hzb.frozen 1; have zf2 := hzb.frozen 2; have zf3 := hzb.frozen 3; have zf4 := hzb.frozen 4) | skip)
                      have hgxb : w3.heap.size < w7.heap.size := C7.out.lt
                      have szd := hd.size
                      (first
                        | (have hF := five_setz hzb (.int .u8 (t).k) (.int .i64 (t).n) (.int .i64 (t).v) (.int .u8 (t).c) (.slice X mx cx) (C7.out.fresh hbr).five (by omega))
                        | (have hF := (C7.out.fresh (below_alloc hbr (Obj.cells #[.int .u8 (t).k, .int .i64 (t).n, .int .i64 (t).v, .int .u8 (t).c, .slice X mx cx] 27))).five))
                      refine wpAnyT_step (i := 16) (by kernel_rfl) rfl (fun K hK => ?_)
                      go_simp
                      refine hK.out _ _ hF ?_
                      clear hK K
                      try simp only [Act.put, List.getElem_toArray, List.getElem_cons_zero, List.getElem_cons_succ, List.setIfInBounds_toArray, List.set_cons_zero, List.set_cons_succ]
                      refine wpAnyT_step (i := 17) (by kernel_rfl) rfl (fun K hK => ?_)
                      go_simp
                      refine hK.out _ _ hF ?_
                      clear hK K
                      try simp only [Act.put, List.getElem_toArray, List.getElem_cons_zero, List.getElem_cons_succ, List.setIfInBounds_toArray, List.set_cons_zero, List.set_cons_succ]
                      clear hF
                      (first
                        | (have hG := box_set (cs := #[]) hzb HX.out (by first | exact hgx | simp) hbr (by omega))
                        | (have hG := box_lay HX.out hbr))
                      have HG := Lib.hid hG
                      clear hG
                      refine wpAnyT_seq 18 (by omega) (by rfl) (by kernel_rfl) ?_
                      simp only [List.drop_succ_cons, List.drop_zero]
                      go_wp2_with fail
                      refine NoPanic.normal ?_
                      go_wp2_with fail
                      go_meet
                      with_reducible exact ⟨_, X, mx, cx, rfl, rfl, HG.out.1, HG.out.2⟩
                    · skip
                      go_simp
                      refine hK.out _ _ (by first | with_reducible exact (C7.out.fresh hbq).five | with_reducible exact (C7.out.fresh (below_alloc hbq _)).five) ?_
                      clear hK K
                      try simp only [Act.put, List.getElem_toArray, List.getElem_cons_zero, List.getElem_cons_succ, List.setIfInBounds_toArray, List.set_cons_zero, List.set_cons_succ]
                      refine wpAnyT_step (i := 11) (by kernel_rfl) rfl (fun K hK => ?_)
                      go_simp; have hlp : p1 ≤ 1099511627776 := (by have := Hpp.out.1; rw [List.length_map] at this; have := Hb7.out; omega); (first | have hgx := hzb.lt | skip); refine (put_from (b0 := wq) (by first | exact Below.refl _ _ | exact below_box _) HP0.out.2 HP0.out.1 (C7.out.fresh hbq).2 Hpp.out Hpm.out hlp).mono ?_; rintro e wr ⟨X, mx, cx, rfl, hx, hqr, hbW⟩; (first | (have hzb := (blk_new _ _ _).below hbW (by simp)) | (replace hzb := hzb.below hbW hzb.lt) | skip); have hbr := hbq.trans (hqr.mono hbq.size); have HX := Lib.hid hx; have szr := hqr.size; clear hx hbW Hpp Hpm hlp
                      refine hK.out _ _ (by first | with_reducible exact (C7.out.fresh hbr).five | with_reducible exact (C7.out.fresh (below_alloc hbr _)).five) ?_
                      clear hK K
                      try simp only [Act.put, List.getElem_toArray, List.getElem_cons_zero, List.getElem_cons_succ, List.setIfInBounds_toArray, List.set_cons_zero, List.set_cons_succ]
                      have hS5 := (C7.out.fresh hbr).five
                      refine wpAnyT_take (i := 12) (v := ?_) rfl (by kernel_rfl) (by kernel_rfl) (by kernel_rfl) (by kernel_rfl) (fun _ _ _ h => h) (Or.inl ⟨by rfl, ?_⟩) (by assumption) ?_
                      rotate_left
                      · (intro w hSw; (try dsimp only at hSw); first | (go_simp; done) | (go_simp; with_reducible rfl))
                      try simp only [Act.put, List.getElem_toArray, List.getElem_cons_zero, List.getElem_cons_succ, List.setIfInBounds_toArray, List.set_cons_zero, List.set_cons_succ]
                      refine wpAnyT_take (i := 13) (v := ?_) rfl (by kernel_rfl) (by kernel_rfl) (by kernel_rfl) (by kernel_rfl) (fun _ _ _ h => h) (Or.inl ⟨by rfl, ?_⟩) (by assumption) ?_
                      rotate_left
                      · (intro w hSw; (try dsimp only at hSw); first | (go_simp; done) | (go_simp; with_reducible rfl))
                      try simp only [Act.put, List.getElem_toArray, List.getElem_cons_zero, List.getElem_cons_succ, List.setIfInBounds_toArray, List.set_cons_zero, List.set_cons_succ]
                      refine wpAnyT_take (i := 14) (v := ?_) rfl (by kernel_rfl) (by kernel_rfl) (by kernel_rfl) (by kernel_rfl) (fun _ _ _ h => h) (Or.inl ⟨by rfl, ?_⟩) (by assumption) ?_
                      rotate_left
                      · (intro w hSw; (try dsimp only at hSw); first | (go_simp; done) | (go_simp; with_reducible rfl))
                      try simp only [Act.put, List.getElem_toArray, List.getElem_cons_zero, List.getElem_cons_succ, List.setIfInBounds_toArray, List.set_cons_zero, List.set_cons_succ]
                      (first | (have zc0 := hzb.cell 0; have zc1 := hzb.cell 1; have zc2 := hzb.cell 2; have zc3 := hzb.cell 3; have zc4 := hzb.cell 4; have zf0 := hzb.frozen 0; have zf1 := hzb.frozen 1; have zf2 := hzb.frozen 2; have zf3 := hzb.frozen 3; have zf4 := hzb.frozen 4) | skip)
                      have hgxb : w3.heap.size < w7.heap.size := C7.out.lt
                      have szd := hd.size
                      (first
                        | (have hF := five_setz hzb (.int .u8 (t).k) (.int .i64 (t).n) (.int .i64 (t).v) (.int .u8 (t).c) (.slice X mx cx) (C7.out.fresh hbr).five (by omega))
                        | (have hF := (C7.out.fresh (below_alloc hbr (Obj.cells #[.int .u8 (t).k, .int .i64 (t).n, .int .i64 (t).v, .int .u8 (t).c, .slice X mx cx] 27))).five))
                      refine wpAnyT_step (i := 16) (by kernel_rfl) rfl (fun K hK => ?_)
                      go_simp
                      refine hK.out _ _ hF ?_
                      clear hK K
                      try simp only [Act.put, List.getElem_toArray, List.getElem_cons_zero, List.getElem_cons_succ, List.setIfInBounds_toArray, List.set_cons_zero, List.set_cons_succ]
                      refine wpAnyT_step (i := 17) (by kernel_rfl) rfl (fun K hK => ?_)
                      go_simp
                      refine hK.out _ _ hF ?_
                      clear hK K
                      try simp only [Act.put, List.getElem_toArray, List.getElem_cons_zero, List.getElem_cons_succ, List.setIfInBounds_toArray, List.set_cons_zero, List.set_cons_succ]
                      clear hF
                      (first
                        | (have hG := box_set (cs := #[]) hzb HX.out (by first | exact hgx | simp) hbr (by omega))
                        | (have hG := box_lay HX.out hbr))
                      have HG := Lib.hid hG
                      clear hG
                      refine wpAnyT_seq 18 (by omega) (by rfl) (by kernel_rfl) ?_
                      simp only [List.drop_succ_cons, List.drop_zero]
                      go_wp2_with fail
                      refine NoPanic.normal ?_
                      go_wp2_with fail
                      go_meet
                      with_reducible exact ⟨_, X, mx, cx, rfl, rfl, HG.out.1, HG.out.2⟩
                  · skip
                    go_simp
                    refine hK.out _ _ (by first | with_reducible exact (C7.out.fresh hbq).five | with_reducible exact (C7.out.fresh (below_alloc hbq _)).five) ?_
                    clear hK K
                    try simp only [Act.put, List.getElem_toArray, List.getElem_cons_zero, List.getElem_cons_succ, List.setIfInBounds_toArray, List.set_cons_zero, List.set_cons_succ]
                    refine wpAnyT_step (i := 10) (by kernel_rfl) rfl (fun K hK => ?_)
                    go_simp; refine (second_any _ _ _ _ _ _ _).mono ?_; rintro e wg ⟨rfl, rfl⟩
                    refine hK.out _ _ (by first | with_reducible exact (C7.out.fresh hbq).five | with_reducible exact (C7.out.fresh (below_alloc hbq _)).five) ?_
                    clear hK K
                    try simp only [Act.put, List.getElem_toArray, List.getElem_cons_zero, List.getElem_cons_succ, List.setIfInBounds_toArray, List.set_cons_zero, List.set_cons_succ]
                    refine wpAnyT_step (i := 11) (by kernel_rfl) rfl (fun K hK => ?_)
                    go_simp; have hlp : p1 ≤ 1099511627776 := (by have := Hpp.out.1; rw [List.length_map] at this; have := Hb7.out; omega); (first | have hgx := hzb.lt | skip); refine (put_from (b0 := wq) (by first | exact Below.refl _ _ | exact below_box _) HP0.out.2 HP0.out.1 (C7.out.fresh hbq).2 Hpp.out Hpm.out hlp).mono ?_; rintro e wr ⟨X, mx, cx, rfl, hx, hqr, hbW⟩; (first | (have hzb := (blk_new _ _ _).below hbW (by simp)) | (replace hzb := hzb.below hbW hzb.lt) | skip); have hbr := hbq.trans (hqr.mono hbq.size); have HX := Lib.hid hx; have szr := hqr.size; clear hx hbW Hpp Hpm hlp
                    refine hK.out _ _ (by first | with_reducible exact (C7.out.fresh hbr).five | with_reducible exact (C7.out.fresh (below_alloc hbr _)).five) ?_
                    clear hK K
                    try simp only [Act.put, List.getElem_toArray, List.getElem_cons_zero, List.getElem_cons_succ, List.setIfInBounds_toArray, List.set_cons_zero, List.set_cons_succ]
                    have hS5 := (C7.out.fresh hbr).five
                    refine wpAnyT_take (i := 12) (v := ?_) rfl (by kernel_rfl) (by kernel_rfl) (by kernel_rfl) (by kernel_rfl) (fun _ _ _ h => h) (Or.inl ⟨by rfl, ?_⟩) (by assumption) ?_
                    rotate_left
                    · (intro w hSw; (try dsimp only at hSw); first | (go_simp; done) | (go_simp; with_reducible rfl))
                    try simp only [Act.put, List.getElem_toArray, List.getElem_cons_zero, List.getElem_cons_succ, List.setIfInBounds_toArray, List.set_cons_zero, List.set_cons_succ]
                    refine wpAnyT_take (i := 13) (v := ?_) rfl (by kernel_rfl) (by kernel_rfl) (by kernel_rfl) (by kernel_rfl) (fun _ _ _ h => h) (Or.inl ⟨by rfl, ?_⟩) (by assumption) ?_
                    rotate_left
                    · (intro w hSw; (try dsimp only at hSw); first | (go_simp; done) | (go_simp; with_reducible rfl))
                    try simp only [Act.put, List.getElem_toArray, List.getElem_cons_zero, List.getElem_cons_succ, List.setIfInBounds_toArray, List.set_cons_zero, List.set_cons_succ]
                    refine wpAnyT_take (i := 14) (v := ?_) rfl (by kernel_rfl) (by kernel_rfl) (by kernel_rfl) (by kernel_rfl) (fun _ _ _ h => h) (Or.inl ⟨by rfl, ?_⟩) (by assumption) ?_
                    rotate_left
                    · (intro w hSw; (try dsimp only at hSw); first | (go_simp; done) | (go_simp; with_reducible rfl))
                    try simp only [Act.put, List.getElem_toArray, List.getElem_cons_zero, List.getElem_cons_succ, List.setIfInBounds_toArray, List.set_cons_zero, List.set_cons_succ]
                    (first | (have zc0 := hzb.cell 0; have zc1 := hzb.cell 1; have zc2 := hzb.cell 2; have zc3 := hzb.cell 3; have zc4 := hzb.cell 4; have zf0 := hzb.frozen 0; have zf1 := hzb.frozen 1; have zf2 := hzb.frozen 2; have zf3 := hzb.frozen 3; have zf4 := hzb.frozen 4) | skip)
                    have hgxb : w3.heap.size < w7.heap.size := C7.out.lt
                    have szd := hd.size
                    (first
                      | (have hF := five_setz hzb (.int .u8 (t).k) (.int .i64 (t).n) (.int .i64 (t).v) (.int .u8 (t).c) (.slice X mx cx) (C7.out.fresh hbr).five (by omega))
                      | (have hF := (C7.out.fresh (below_alloc hbr (Obj.cells #[.int .u8 (t).k, .int .i64 (t).n, .int .i64 (t).v, .int .u8 (t).c, .slice X mx cx] 27))).five))
                    refine wpAnyT_step (i := 16) (by kernel_rfl) rfl (fun K hK => ?_)
                    go_simp
                    refine hK.out _ _ hF ?_
                    clear hK K
                    try simp only [Act.put, List.getElem_toArray, List.getElem_cons_zero, List.getElem_cons_succ, List.setIfInBounds_toArray, List.set_cons_zero, List.set_cons_succ]
                    refine wpAnyT_step (i := 17) (by kernel_rfl) rfl (fun K hK => ?_)
                    go_simp
                    refine hK.out _ _ hF ?_
                    clear hK K
                    try simp only [Act.put, List.getElem_toArray, List.getElem_cons_zero, List.getElem_cons_succ, List.setIfInBounds_toArray, List.set_cons_zero, List.set_cons_succ]
                    clear hF
                    (first
                      | (have hG := box_set (cs := #[]) hzb HX.out (by first | exact hgx | simp) hbr (by omega))
                      | (have hG := box_lay HX.out hbr))
                    have HG := Lib.hid hG
                    clear hG
                    refine wpAnyT_seq 18 (by omega) (by rfl) (by kernel_rfl) ?_
                    simp only [List.drop_succ_cons, List.drop_zero]
                    go_wp2_with fail
                    refine NoPanic.normal ?_
                    go_wp2_with fail
                    go_meet
                    with_reducible exact ⟨_, X, mx, cx, rfl, rfl, HG.out.1, HG.out.2⟩
                · skip
                  go_simp
                  refine hK.out _ _ (by first | with_reducible exact (C7.out.fresh hbp).five | with_reducible exact (C7.out.fresh (below_alloc hbp _)).five) ?_
                  clear hK K
                  try simp only [Act.put, List.getElem_toArray, List.getElem_cons_zero, List.getElem_cons_succ, List.setIfInBounds_toArray, List.set_cons_zero, List.set_cons_succ]
                  refine wpAnyT_step (i := 7) (by kernel_rfl) rfl (fun K hK => ?_)
                  go_simp; refine (canons1_from (b0 := w7) (by first | exact hbp | exact below_alloc hbp _) (s := 0) (by omega) (by omega) D7.out E7.out HL1.out HL2.out (by omega) (by omega)).mono ?_; rintro e wq ⟨P3, p3, q3, P4, p4, q4, rfl, hp, hpm, hbq, hbW⟩; (first | (have hzb := (blk_new _ _ _).below hbW (by simp)) | (replace hzb := hzb.below hbW hzb.lt) | skip); have hpq : Below wp.heap.size wp wq := (by first | exact hbW | exact below_unalloc hbW); have Hpp := Lib.hid (TysV.fresh Hp.out hpq); have Hpm := Lib.hid hpm; have szq := hpq.size; clear hp hpm hbW hpq
                  refine hK.out _ _ (by first | with_reducible exact (C7.out.fresh hbq).five | with_reducible exact (C7.out.fresh (below_alloc hbq _)).five) ?_
                  clear hK K
                  try simp only [Act.put, List.getElem_toArray, List.getElem_cons_zero, List.getElem_cons_succ, List.setIfInBounds_toArray, List.set_cons_zero, List.set_cons_succ]
                  have hS5 := (C7.out.fresh hbq).five
                  refine wpAnyT_take (i := 8) (v := ?_) rfl (by kernel_rfl) (by kernel_rfl) (by kernel_rfl) (by kernel_rfl) (fun _ _ _ h => h) (Or.inl ⟨by rfl, ?_⟩) (by assumption) ?_
                  rotate_left
                  · (intro w hSw; (try dsimp only at hSw); first | (go_simp; done) | (go_simp; with_reducible rfl))
                  try simp only [Act.put, List.getElem_toArray, List.getElem_cons_zero, List.getElem_cons_succ, List.setIfInBounds_toArray, List.set_cons_zero, List.set_cons_succ]
                  refine wpAnyT_take (i := 9) (v := ?_) rfl (by kernel_rfl) (by kernel_rfl) (by kernel_rfl) (by kernel_rfl) (fun _ _ _ h => h) (Or.inl ⟨by rfl, ?_⟩) (by assumption) ?_
                  rotate_left
                  · (intro w hSw; (try dsimp only at hSw); first | (go_simp; done) | (go_simp; with_reducible rfl))
                  try simp only [Act.put, List.getElem_toArray, List.getElem_cons_zero, List.getElem_cons_succ, List.setIfInBounds_toArray, List.set_cons_zero, List.set_cons_succ]
                  refine wpAnyT_step (i := 10) (by kernel_rfl) rfl (fun K hK => ?_)
                  go_simp; refine (second_any _ _ _ _ _ _ _).mono ?_; rintro e wg ⟨rfl, rfl⟩
                  refine hK.out _ _ (by first | with_reducible exact (C7.out.fresh hbq).five | with_reducible exact (C7.out.fresh (below_alloc hbq _)).five) ?_
                  clear hK K
                  try simp only [Act.put, List.getElem_toArray, List.getElem_cons_zero, List.getElem_cons_succ, List.setIfInBounds_toArray, List.set_cons_zero, List.set_cons_succ]
                  refine wpAnyT_step (i := 11) (by kernel_rfl) rfl (fun K hK => ?_)
                  go_simp; have hlp : p1 ≤ 1099511627776 := (by have := Hpp.out.1; rw [List.length_map] at this; have := Hb7.out; omega); (first | have hgx := hzb.lt | skip); refine (put_from (b0 := wq) (by first | exact Below.refl _ _ | exact below_box _) HP0.out.2 HP0.out.1 (C7.out.fresh hbq).2 Hpp.out Hpm.out hlp).mono ?_; rintro e wr ⟨X, mx, cx, rfl, hx, hqr, hbW⟩; (first | (have hzb := (blk_new _ _ _).below hbW (by simp)) | (replace hzb := hzb.below hbW hzb.lt) | skip); have hbr := hbq.trans (hqr.mono hbq.size); have HX := Lib.hid hx; have szr := hqr.size; clear hx hbW Hpp Hpm hlp
                  refine hK.out _ _ (by first | with_reducible exact (C7.out.fresh hbr).five | with_reducible exact (C7.out.fresh (below_alloc hbr _)).five) ?_
                  clear hK K
                  try simp only [Act.put, List.getElem_toArray, List.getElem_cons_zero, List.getElem_cons_succ, List.setIfInBounds_toArray, List.set_cons_zero, List.set_cons_succ]
                  have hS5 := (C7.out.fresh hbr).five
                  refine wpAnyT_take (i := 12) (v := ?_) rfl (by kernel_rfl) (by kernel_rfl) (by kernel_rfl) (by kernel_rfl) (fun _ _ _ h => h) (Or.inl ⟨by rfl, ?_⟩) (by assumption) ?_
                  rotate_left
                  · (intro w hSw; (try dsimp only at hSw); first | (go_simp; done) | (go_simp; with_reducible rfl))
                  try simp only [Act.put, List.getElem_toArray, List.getElem_cons_zero, List.getElem_cons_succ, List.setIfInBounds_toArray, List.set_cons_zero, List.set_cons_succ]
                  refine wpAnyT_take (i := 13) (v := ?_) rfl (by kernel_rfl) (by kernel_rfl) (by kernel_rfl) (by kernel_rfl) (fun _ _ _ h => h) (Or.inl ⟨by rfl, ?_⟩) (by assumption) ?_
                  rotate_left
                  · (intro w hSw; (try dsimp only at hSw); first | (go_simp; done) | (go_simp; with_reducible rfl))
                  try simp only [Act.put, List.getElem_toArray, List.getElem_cons_zero, List.getElem_cons_succ, List.setIfInBounds_toArray, List.set_cons_zero, List.set_cons_succ]
                  refine wpAnyT_take (i := 14) (v := ?_) rfl (by kernel_rfl) (by kernel_rfl) (by kernel_rfl) (by kernel_rfl) (fun _ _ _ h => h) (Or.inl ⟨by rfl, ?_⟩) (by assumption) ?_
                  rotate_left
                  · (intro w hSw; (try dsimp only at hSw); first | (go_simp; done) | (go_simp; with_reducible rfl))
                  try simp only [Act.put, List.getElem_toArray, List.getElem_cons_zero, List.getElem_cons_succ, List.setIfInBounds_toArray, List.set_cons_zero, List.set_cons_succ]
                  (first | (have zc0 := hzb.cell 0; have zc1 := hzb.cell 1; have zc2 := hzb.cell 2; have zc3 := hzb.cell 3; have zc4 := hzb.cell 4; have zf0 := hzb.frozen 0; have zf1 := hzb.frozen 1; have zf2 := hzb.frozen 2; have zf3 := hzb.frozen 3; have zf4 := hzb.frozen 4) | skip)
                  have hgxb : w3.heap.size < w7.heap.size := C7.out.lt
                  have szd := hd.size
                  (first
                    | (have hF := five_setz hzb (.int .u8 (t).k) (.int .i64 (t).n) (.int .i64 (t).v) (.int .u8 (t).c) (.slice X mx cx) (C7.out.fresh hbr).five (by omega))
                    | (have hF := (C7.out.fresh (below_alloc hbr (Obj.cells #[.int .u8 (t).k, .int .i64 (t).n, .int .i64 (t).v, .int .u8 (t).c, .slice X mx cx] 27))).five))
                  refine wpAnyT_step (i := 16) (by kernel_rfl) rfl (fun K hK => ?_)
                  go_simp
                  refine hK.out _ _ hF ?_
                  clear hK K
                  try simp only [Act.put, List.getElem_toArray, List.getElem_cons_zero, List.getElem_cons_succ, List.setIfInBounds_toArray, List.set_cons_zero, List.set_cons_succ]
                  refine wpAnyT_step (i := 17) (by kernel_rfl) rfl (fun K hK => ?_)
                  go_simp
                  refine hK.out _ _ hF ?_
                  clear hK K
                  try simp only [Act.put, List.getElem_toArray, List.getElem_cons_zero, List.getElem_cons_succ, List.setIfInBounds_toArray, List.set_cons_zero, List.set_cons_succ]
                  clear hF
                  (first
                    | (have hG := box_set (cs := #[]) hzb HX.out (by first | exact hgx | simp) hbr (by omega))
                    | (have hG := box_lay HX.out hbr))
                  have HG := Lib.hid hG
                  clear hG
                  refine wpAnyT_seq 18 (by omega) (by rfl) (by kernel_rfl) ?_
                  simp only [List.drop_succ_cons, List.drop_zero]
                  go_wp2_with fail
                  refine NoPanic.normal ?_
                  go_wp2_with fail
                  go_meet
                  with_reducible exact ⟨_, X, mx, cx, rfl, rfl, HG.out.1, HG.out.2⟩
              · skip
                go_simp
                refine hK.out _ _ (by first | with_reducible exact (C7.out.fresh hbp).five | with_reducible exact (C7.out.fresh (below_alloc hbp _)).five) ?_
                clear hK K
                try simp only [Act.put, List.getElem_toArray, List.getElem_cons_zero, List.getElem_cons_succ, List.setIfInBounds_toArray, List.set_cons_zero, List.set_cons_succ]
                refine wpAnyT_step (i := 5) (by kernel_rfl) rfl (fun K hK => ?_)
                go_simp; refine (first_any _ _ _ _ _ _ _).mono ?_; rintro e wf ⟨rfl, rfl⟩
                refine hK.out _ _ (by first | with_reducible exact (C7.out.fresh hbp).five | with_reducible exact (C7.out.fresh (below_alloc hbp _)).five) ?_
                clear hK K
                try simp only [Act.put, List.getElem_toArray, List.getElem_cons_zero, List.getElem_cons_succ, List.setIfInBounds_toArray, List.set_cons_zero, List.set_cons_succ]
                refine wpAnyT_step (i := 7) (by kernel_rfl) rfl (fun K hK => ?_)
                go_simp; refine (canons1_from (b0 := w7) (by first | exact hbp | exact below_alloc hbp _) (s := 0) (by omega) (by omega) D7.out E7.out HL1.out HL2.out (by omega) (by omega)).mono ?_; rintro e wq ⟨P3, p3, q3, P4, p4, q4, rfl, hp, hpm, hbq, hbW⟩; (first | (have hzb := (blk_new _ _ _).below hbW (by simp)) | (replace hzb := hzb.below hbW hzb.lt) | skip); have hpq : Below wp.heap.size wp wq := (by first | exact hbW | exact below_unalloc hbW); have Hpp := Lib.hid (TysV.fresh Hp.out hpq); have Hpm := Lib.hid hpm; have szq := hpq.size; clear hp hpm hbW hpq
                refine hK.out _ _ (by first | with_reducible exact (C7.out.fresh hbq).five | with_reducible exact (C7.out.fresh (below_alloc hbq _)).five) ?_
                clear hK K
                try simp only [Act.put, List.getElem_toArray, List.getElem_cons_zero, List.getElem_cons_succ, List.setIfInBounds_toArray, List.set_cons_zero, List.set_cons_succ]
                have hS5 := (C7.out.fresh hbq).five
                refine wpAnyT_take (i := 8) (v := ?_) rfl (by kernel_rfl) (by kernel_rfl) (by kernel_rfl) (by kernel_rfl) (fun _ _ _ h => h) (Or.inl ⟨by rfl, ?_⟩) (by assumption) ?_
                rotate_left
                · (intro w hSw; (try dsimp only at hSw); first | (go_simp; done) | (go_simp; with_reducible rfl))
                try simp only [Act.put, List.getElem_toArray, List.getElem_cons_zero, List.getElem_cons_succ, List.setIfInBounds_toArray, List.set_cons_zero, List.set_cons_succ]
                refine wpAnyT_take (i := 9) (v := ?_) rfl (by kernel_rfl) (by kernel_rfl) (by kernel_rfl) (by kernel_rfl) (fun _ _ _ h => h) (Or.inl ⟨by rfl, ?_⟩) (by assumption) ?_
                rotate_left
                · (intro w hSw; (try dsimp only at hSw); first | (go_simp; done) | (go_simp; with_reducible rfl))
                try simp only [Act.put, List.getElem_toArray, List.getElem_cons_zero, List.getElem_cons_succ, List.setIfInBounds_toArray, List.set_cons_zero, List.set_cons_succ]
                refine wpAnyT_step (i := 10) (by kernel_rfl) rfl (fun K hK => ?_)
                go_simp; refine (second_any _ _ _ _ _ _ _).mono ?_; rintro e wg ⟨rfl, rfl⟩
                refine hK.out _ _ (by first | with_reducible exact (C7.out.fresh hbq).five | with_reducible exact (C7.out.fresh (below_alloc hbq _)).five) ?_
                clear hK K
                try simp only [Act.put, List.getElem_toArray, List.getElem_cons_zero, List.getElem_cons_succ, List.setIfInBounds_toArray, List.set_cons_zero, List.set_cons_succ]
                refine wpAnyT_step (i := 11) (by kernel_rfl) rfl (fun K hK => ?_)
                go_simp; have hlp : p1 ≤ 1099511627776 := (by have := Hpp.out.1; rw [List.length_map] at this; have := Hb7.out; omega); (first | have hgx := hzb.lt | skip); refine (put_from (b0 := wq) (by first | exact Below.refl _ _ | exact below_box _) HP0.out.2 HP0.out.1 (C7.out.fresh hbq).2 Hpp.out Hpm.out hlp).mono ?_; rintro e wr ⟨X, mx, cx, rfl, hx, hqr, hbW⟩; (first | (have hzb := (blk_new _ _ _).below hbW (by simp)) | (replace hzb := hzb.below hbW hzb.lt) | skip); have hbr := hbq.trans (hqr.mono hbq.size); have HX := Lib.hid hx; have szr := hqr.size; clear hx hbW Hpp Hpm hlp
                refine hK.out _ _ (by first | with_reducible exact (C7.out.fresh hbr).five | with_reducible exact (C7.out.fresh (below_alloc hbr _)).five) ?_
                clear hK K
                try simp only [Act.put, List.getElem_toArray, List.getElem_cons_zero, List.getElem_cons_succ, List.setIfInBounds_toArray, List.set_cons_zero, List.set_cons_succ]
                have hS5 := (C7.out.fresh hbr).five
                refine wpAnyT_take (i := 12) (v := ?_) rfl (by kernel_rfl) (by kernel_rfl) (by kernel_rfl) (by kernel_rfl) (fun _ _ _ h => h) (Or.inl ⟨by rfl, ?_⟩) (by assumption) ?_
                rotate_left
                · (intro w hSw; (try dsimp only at hSw); first | (go_simp; done) | (go_simp; with_reducible rfl))
                try simp only [Act.put, List.getElem_toArray, List.getElem_cons_zero, List.getElem_cons_succ, List.setIfInBounds_toArray, List.set_cons_zero, List.set_cons_succ]
                refine wpAnyT_take (i := 13) (v := ?_) rfl (by kernel_rfl) (by kernel_rfl) (by kernel_rfl) (by kernel_rfl) (fun _ _ _ h => h) (Or.inl ⟨by rfl, ?_⟩) (by assumption) ?_
                rotate_left
                · (intro w hSw; (try dsimp only at hSw); first | (go_simp; done) | (go_simp; with_reducible rfl))
                try simp only [Act.put, List.getElem_toArray, List.getElem_cons_zero, List.getElem_cons_succ, List.setIfInBounds_toArray, List.set_cons_zero, List.set_cons_succ]
                refine wpAnyT_take (i := 14) (v := ?_) rfl (by kernel_rfl) (by kernel_rfl) (by kernel_rfl) (by kernel_rfl) (fun _ _ _ h => h) (Or.inl ⟨by rfl, ?_⟩) (by assumption) ?_
                rotate_left
                · (intro w hSw; (try dsimp only at hSw); first | (go_simp; done) | (go_simp; with_reducible rfl))
                try simp only [Act.put, List.getElem_toArray, List.getElem_cons_zero, List.getElem_cons_succ, List.setIfInBounds_toArray, List.set_cons_zero, List.set_cons_succ]
                (first | (have zc0 := hzb.cell 0; have zc1 := hzb.cell 1; have zc2 := hzb.cell 2; have zc3 := hzb.cell 3; have zc4 := hzb.cell 4; have zf0 := hzb.frozen 0; have zf1 := hzb.frozen 1; have zf2 := hzb.frozen 2; have zf3 := hzb.frozen 3; have zf4 := hzb.frozen 4) | skip)
                have hgxb : w3.heap.size < w7.heap.size := C7.out.lt
                have szd := hd.size
                (first
                  | (have hF := five_setz hzb (.int .u8 (t).k) (.int .i64 (t).n) (.int .i64 (t).v) (.int .u8 (t).c) (.slice X mx cx) (C7.out.fresh hbr).five (by omega))
                  | (have hF := (C7.out.fresh (below_alloc hbr (Obj.cells #[.int .u8 (t).k, .int .i64 (t).n, .int .i64 (t).v, .int .u8 (t).c, .slice X mx cx] 27))).five))
                refine wpAnyT_step (i := 16) (by kernel_rfl) rfl (fun K hK => ?_)
                go_simp
                refine hK.out _ _ hF ?_
                clear hK K
                try simp only [Act.put, List.getElem_toArray, List.getElem_cons_zero, List.getElem_cons_succ, List.setIfInBounds_toArray, List.set_cons_zero, List.set_cons_succ]
                refine wpAnyT_step (i := 17) (by kernel_rfl) rfl (fun K hK => ?_)
                go_simp
                refine hK.out _ _ hF ?_
                clear hK K
                try simp only [Act.put, List.getElem_toArray, List.getElem_cons_zero, List.getElem_cons_succ, List.setIfInBounds_toArray, List.set_cons_zero, List.set_cons_succ]
                clear hF
                (first
                  | (have hG := box_set (cs := #[]) hzb HX.out (by first | exact hgx | simp) hbr (by omega))
                  | (have hG := box_lay HX.out hbr))
                have HG := Lib.hid hG
                clear hG
                refine wpAnyT_seq 18 (by omega) (by rfl) (by kernel_rfl) ?_
                simp only [List.drop_succ_cons, List.drop_zero]
                go_wp2_with fail
                refine NoPanic.normal ?_
                go_wp2_with fail
                go_meet
                with_reducible exact ⟨_, X, mx, cx, rfl, rfl, HG.out.1, HG.out.2⟩
            · skip
              go_simp
              refine hK.out _ _ (by first | with_reducible exact (C7.out.fresh hd).five | with_reducible exact (C7.out.fresh (below_alloc hd _)).five) ?_
              clear hK K
              try simp only [Act.put, List.getElem_toArray, List.getElem_cons_zero, List.getElem_cons_succ, List.setIfInBounds_toArray, List.set_cons_zero, List.set_cons_succ]
              refine wpAnyT_step (i := 2) (by kernel_rfl) rfl (fun K hK => ?_)
              go_simp; refine (canons1_from (b0 := w7) (by first | exact hd | exact below_alloc hd _) (s := 0) (by omega) (by omega) D7.out E7.out HL1.out HL2.out (by omega) (by omega)).mono ?_; rintro e wp ⟨P1, p1, q1, P2, p2, q2, rfl, hp, hpm, hbp, hbW⟩; (first | (have hzb := (blk_new _ _ _).below hbW (by simp)) | (replace hzb := hzb.below hbW hzb.lt) | skip); have Hp := Lib.hid hp; have szp := hbp.size; clear hp hpm hbW
              refine hK.out _ _ (by first | with_reducible exact (C7.out.fresh hbp).five | with_reducible exact (C7.out.fresh (below_alloc hbp _)).five) ?_
              clear hK K
              try simp only [Act.put, List.getElem_toArray, List.getElem_cons_zero, List.getElem_cons_succ, List.setIfInBounds_toArray, List.set_cons_zero, List.set_cons_succ]
              have hS5 := (C7.out.fresh hbp).five
              refine wpAnyT_take (i := 3) (v := ?_) rfl (by kernel_rfl) (by kernel_rfl) (by kernel_rfl) (by kernel_rfl) (fun _ _ _ h => h) (Or.inl ⟨by rfl, ?_⟩) (by assumption) ?_
              rotate_left
              · (intro w hSw; (try dsimp only at hSw); first | (go_simp; done) | (go_simp; with_reducible rfl))
              try simp only [Act.put, List.getElem_toArray, List.getElem_cons_zero, List.getElem_cons_succ, List.setIfInBounds_toArray, List.set_cons_zero, List.set_cons_succ]
              refine wpAnyT_take (i := 4) (v := ?_) rfl (by kernel_rfl) (by kernel_rfl) (by kernel_rfl) (by kernel_rfl) (fun _ _ _ h => h) (Or.inl ⟨by rfl, ?_⟩) (by assumption) ?_
              rotate_left
              · (intro w hSw; (try dsimp only at hSw); first | (go_simp; done) | (go_simp; with_reducible rfl))
              try simp only [Act.put, List.getElem_toArray, List.getElem_cons_zero, List.getElem_cons_succ, List.setIfInBounds_toArray, List.set_cons_zero, List.set_cons_succ]
              refine wpAnyT_step (i := 5) (by kernel_rfl) rfl (fun K hK => ?_)
              go_simp; refine (first_any _ _ _ _ _ _ _).mono ?_; rintro e wf ⟨rfl, rfl⟩
              refine hK.out _ _ (by first | with_reducible exact (C7.out.fresh hbp).five | with_reducible exact (C7.out.fresh (below_alloc hbp _)).five) ?_
              clear hK K
              try simp only [Act.put, List.getElem_toArray, List.getElem_cons_zero, List.getElem_cons_succ, List.setIfInBounds_toArray, List.set_cons_zero, List.set_cons_succ]
              refine wpAnyT_step (i := 7) (by kernel_rfl) rfl (fun K hK => ?_)
              go_simp; refine (canons1_from (b0 := w7) (by first | exact hbp | exact below_alloc hbp _) (s := 0) (by omega) (by omega) D7.out E7.out HL1.out HL2.out (by omega) (by omega)).mono ?_; rintro e wq ⟨P3, p3, q3, P4, p4, q4, rfl, hp, hpm, hbq, hbW⟩; (first | (have hzb := (blk_new _ _ _).below hbW (by simp)) | (replace hzb := hzb.below hbW hzb.lt) | skip); have hpq : Below wp.heap.size wp wq := (by first | exact hbW | exact below_unalloc hbW); have Hpp := Lib.hid (TysV.fresh Hp.out hpq); have Hpm := Lib.hid hpm; have szq := hpq.size; clear hp hpm hbW hpq
              refine hK.out _ _ (by first | with_reducible exact (C7.out.fresh hbq).five | with_reducible exact (C7.out.fresh (below_alloc hbq _)).five) ?_
              clear hK K
              try simp only [Act.put, List.getElem_toArray, List.getElem_cons_zero, List.getElem_cons_succ, List.setIfInBounds_toArray, List.set_cons_zero, List.set_cons_succ]
              have hS5 := (C7.out.fresh hbq).five
              refine wpAnyT_take (i := 8) (v := ?_) rfl (by kernel_rfl) (by kernel_rfl) (by kernel_rfl) (by kernel_rfl) (fun _ _ _ h => h) (Or.inl ⟨by rfl, ?_⟩) (by assumption) ?_
              rotate_left
              · (intro w hSw; (try dsimp only at hSw); first | (go_simp; done) | (go_simp; with_reducible rfl))
              try simp only [Act.put, List.getElem_toArray, List.getElem_cons_zero, List.getElem_cons_succ, List.setIfInBounds_toArray, List.set_cons_zero, List.set_cons_succ]
              refine wpAnyT_take (i := 9) (v := ?_) rfl (by kernel_rfl) (by kernel_rfl) (by kernel_rfl) (by kernel_rfl) (fun _ _ _ h => h) (Or.inl ⟨by rfl, ?_⟩) (by assumption) ?_
              rotate_left
              · (intro w hSw; (try dsimp only at hSw); first | (go_simp; done) | (go_simp; with_reducible rfl))
              try simp only [Act.put, List.getElem_toArray, List.getElem_cons_zero, List.getElem_cons_succ, List.setIfInBounds_toArray, List.set_cons_zero, List.set_cons_succ]
              refine wpAnyT_step (i := 10) (by kernel_rfl) rfl (fun K hK => ?_)
              go_simp; refine (second_any _ _ _ _ _ _ _).mono ?_; rintro e wg ⟨rfl, rfl⟩
              refine hK.out _ _ (by first | with_reducible exact (C7.out.fresh hbq).five | with_reducible exact (C7.out.fresh (below_alloc hbq _)).five) ?_
              clear hK K
              try simp only [Act.put, List.getElem_toArray, List.getElem_cons_zero, List.getElem_cons_succ, List.setIfInBounds_toArray, List.set_cons_zero, List.set_cons_succ]
              refine wpAnyT_step (i := 11) (by kernel_rfl) rfl (fun K hK => ?_)
              go_simp; have hlp : p1 ≤ 1099511627776 := (by have := Hpp.out.1; rw [List.length_map] at this; have := Hb7.out; omega); (first | have hgx := hzb.lt | skip); refine (put_from (b0 := wq) (by first | exact Below.refl _ _ | exact below_box _) HP0.out.2 HP0.out.1 (C7.out.fresh hbq).2 Hpp.out Hpm.out hlp).mono ?_; rintro e wr ⟨X, mx, cx, rfl, hx, hqr, hbW⟩; (first | (have hzb := (blk_new _ _ _).below hbW (by simp)) | (replace hzb := hzb.below hbW hzb.lt) | skip); have hbr := hbq.trans (hqr.mono hbq.size); have HX := Lib.hid hx; have szr := hqr.size; clear hx hbW Hpp Hpm hlp
              refine hK.out _ _ (by first | with_reducible exact (C7.out.fresh hbr).five | with_reducible exact (C7.out.fresh (below_alloc hbr _)).five) ?_
              clear hK K
              try simp only [Act.put, List.getElem_toArray, List.getElem_cons_zero, List.getElem_cons_succ, List.setIfInBounds_toArray, List.set_cons_zero, List.set_cons_succ]
              have hS5 := (C7.out.fresh hbr).five
              refine wpAnyT_take (i := 12) (v := ?_) rfl (by kernel_rfl) (by kernel_rfl) (by kernel_rfl) (by kernel_rfl) (fun _ _ _ h => h) (Or.inl ⟨by rfl, ?_⟩) (by assumption) ?_
              rotate_left
              · (intro w hSw; (try dsimp only at hSw); first | (go_simp; done) | (go_simp; with_reducible rfl))
              try simp only [Act.put, List.getElem_toArray, List.getElem_cons_zero, List.getElem_cons_succ, List.setIfInBounds_toArray, List.set_cons_zero, List.set_cons_succ]
              refine wpAnyT_take (i := 13) (v := ?_) rfl (by kernel_rfl) (by kernel_rfl) (by kernel_rfl) (by kernel_rfl) (fun _ _ _ h => h) (Or.inl ⟨by rfl, ?_⟩) (by assumption) ?_
              rotate_left
              · (intro w hSw; (try dsimp only at hSw); first | (go_simp; done) | (go_simp; with_reducible rfl))
              try simp only [Act.put, List.getElem_toArray, List.getElem_cons_zero, List.getElem_cons_succ, List.setIfInBounds_toArray, List.set_cons_zero, List.set_cons_succ]
              refine wpAnyT_take (i := 14) (v := ?_) rfl (by kernel_rfl) (by kernel_rfl) (by kernel_rfl) (by kernel_rfl) (fun _ _ _ h => h) (Or.inl ⟨by rfl, ?_⟩) (by assumption) ?_
              rotate_left
              · (intro w hSw; (try dsimp only at hSw); first | (go_simp; done) | (go_simp; with_reducible rfl))
              try simp only [Act.put, List.getElem_toArray, List.getElem_cons_zero, List.getElem_cons_succ, List.setIfInBounds_toArray, List.set_cons_zero, List.set_cons_succ]
              (first | (have zc0 := hzb.cell 0; have zc1 := hzb.cell 1; have zc2 := hzb.cell 2; have zc3 := hzb.cell 3; have zc4 := hzb.cell 4; have zf0 := hzb.frozen 0; have zf1 := hzb.frozen 1; have zf2 := hzb.frozen 2; have zf3 := hzb.frozen 3; have zf4 := hzb.frozen 4) | skip)
              have hgxb : w3.heap.size < w7.heap.size := C7.out.lt
              have szd := hd.size
              (first
                | (have hF := five_setz hzb (.int .u8 (t).k) (.int .i64 (t).n) (.int .i64 (t).v) (.int .u8 (t).c) (.slice X mx cx) (C7.out.fresh hbr).five (by omega))
                | (have hF := (C7.out.fresh (below_alloc hbr (Obj.cells #[.int .u8 (t).k, .int .i64 (t).n, .int .i64 (t).v, .int .u8 (t).c, .slice X mx cx] 27))).five))
              refine wpAnyT_step (i := 16) (by kernel_rfl) rfl (fun K hK => ?_)
              go_simp
              refine hK.out _ _ hF ?_
              clear hK K
              try simp only [Act.put, List.getElem_toArray, List.getElem_cons_zero, List.getElem_cons_succ, List.setIfInBounds_toArray, List.set_cons_zero, List.set_cons_succ]
              refine wpAnyT_step (i := 17) (by kernel_rfl) rfl (fun K hK => ?_)
              go_simp
              refine hK.out _ _ hF ?_
              clear hK K
              try simp only [Act.put, List.getElem_toArray, List.getElem_cons_zero, List.getElem_cons_succ, List.setIfInBounds_toArray, List.set_cons_zero, List.set_cons_succ]
              clear hF
              (first
                | (have hG := box_set (cs := #[]) hzb HX.out (by first | exact hgx | simp) hbr (by omega))
                | (have hG := box_lay HX.out hbr))
              have HG := Lib.hid hG
              clear hG
              refine wpAnyT_seq 18 (by omega) (by rfl) (by kernel_rfl) ?_
              simp only [List.drop_succ_cons, List.drop_zero]
              go_wp2_with fail
              refine NoPanic.normal ?_
              go_wp2_with fail
              go_meet
              with_reducible exact ⟨_, X, mx, cx, rfl, rfl, HG.out.1, HG.out.2⟩
          case rest =>
            obtain ⟨gx, X, mx, cx, rfl, rfl, BX, hbel⟩ := hcut
            have Hw8 := Lib.hid (Hw7.out.trans (hbel.mono Hw7.out.size))
            have B8 := Lib.hid (B7.out.fresh hbel)
            have C8 := Lib.hid (C7.out.fresh hbel)
            have D8 := Lib.hid (D7.out.fresh hbel)
            have E8 := Lib.hid (E7.out.fresh hbel)
            have X8 := Lib.hid BX
            obtain ⟨w78, rfl⟩ : ∃ w78, w78 = wc := ⟨_, rfl⟩
            clear BX hbel B7 C7 D7 E7 Hw7
            try clear u1 u2
            go_upto_region 9 with fail
            go_cut [14, 15] (fun x e wx => ∃ gx X mx cx, x = .pointer (some ⟨gx, 0, none⟩) ∧ e = .int .i64 0 ∧ BT wx gx y X mx cx ∧ Below w78.heap.size w78 wx)
            case first =>
              have hd : Below w78.heap.size w78 w78.drew := Below.drew (Below.refl _ _)
              obtain ⟨a0, a1, a2, a3, a4⟩ := C8.out.five
              go_wp2_with fail
              refine wp_region_noPanic ?_
              refine wp_region_T (fun w' => w'.cell? ⟨w3.heap.size, 0, none⟩ = some (.int .u8 c.k) ∧ w'.cell? ⟨w3.heap.size, 1, none⟩ = some (.int .i64 c.n) ∧ w'.cell? ⟨w3.heap.size, 2, none⟩ = some (.int .i64 c.v) ∧ w'.cell? ⟨w3.heap.size, 3, none⟩ = some (.int .u8 c.c) ∧ w'.cell? ⟨w3.heap.size, 4, none⟩ = some (.slice A3 m3 c3)) 20 (by kernel_rfl) ⟨a0, a1, a2, a3, a4⟩ (fun hHeld => ?_)
              generalize w78.drew = w79 at hd hHeld ⊢
              refine wpAnyT_take (i := 0) (v := ?_) rfl (by kernel_rfl) (by kernel_rfl) (by kernel_rfl) (by kernel_rfl) (fun _ _ _ h => h) (Or.inl ⟨by rfl, ?_⟩) (by assumption) ?_
              rotate_left
              · (intro w hSw; (try dsimp only at hSw); first | (go_simp; done) | (go_simp; with_reducible rfl))
              try simp only [Act.put, List.getElem_toArray, List.getElem_cons_zero, List.getElem_cons_succ, List.setIfInBounds_toArray, List.set_cons_zero, List.set_cons_succ]
              refine wpAnyT_take (i := 1) (v := ?_) rfl (by kernel_rfl) (by kernel_rfl) (by kernel_rfl) (by kernel_rfl) (fun _ _ _ h => h) (Or.inl ⟨by rfl, ?_⟩) (by assumption) ?_
              rotate_left
              · (intro w hSw; (try dsimp only at hSw); first | (go_simp; done) | (go_simp; with_reducible rfl))
              try simp only [Act.put, List.getElem_toArray, List.getElem_cons_zero, List.getElem_cons_succ, List.setIfInBounds_toArray, List.set_cons_zero, List.set_cons_succ]
              refine wpAnyT_take (i := 2) (v := ?_) rfl (by kernel_rfl) (by kernel_rfl) (by kernel_rfl) (by kernel_rfl) (fun _ _ _ h => h) (Or.inl ⟨by rfl, ?_⟩) (by assumption) ?_
              rotate_left
              · (intro w hSw; (try dsimp only at hSw); first | (go_simp; done) | (go_simp; with_reducible rfl))
              try simp only [Act.put, List.getElem_toArray, List.getElem_cons_zero, List.getElem_cons_succ, List.setIfInBounds_toArray, List.set_cons_zero, List.set_cons_succ]
              refine wpAnyT_take (i := 7) (v := ?_) rfl (by kernel_rfl) (by kernel_rfl) (by kernel_rfl) (by kernel_rfl) (fun _ _ _ h => h) (Or.inl ⟨by rfl, ?_⟩) (by assumption) ?_
              rotate_left
              · (intro w hSw; (try dsimp only at hSw); first | (go_simp; done) | (go_simp; with_reducible rfl))
              try simp only [Act.put, List.getElem_toArray, List.getElem_cons_zero, List.getElem_cons_succ, List.setIfInBounds_toArray, List.set_cons_zero, List.set_cons_succ]
              refine wpAnyT_take (i := 8) (v := ?_) rfl (by kernel_rfl) (by kernel_rfl) (by kernel_rfl) (by kernel_rfl) (fun _ _ _ h => h) (Or.inl ⟨by rfl, ?_⟩) (by assumption) ?_
              rotate_left
              · (intro w hSw; (try dsimp only at hSw); first | (go_simp; done) | (go_simp; with_reducible rfl))
              try simp only [Act.put, List.getElem_toArray, List.getElem_cons_zero, List.getElem_cons_succ, List.setIfInBounds_toArray, List.set_cons_zero, List.set_cons_succ]
              refine wpAnyT_two (i := 3) (j := 17) (by kernel_rfl) rfl rfl (fun K hK => ?_) (fun K hK => ?_)
              · skip
                go_simp; refine (canons1_from (b0 := w78) (by first | exact hd | exact below_alloc hd _) (s := s) (by omega) (by omega) D8.out E8.out HL1.out HL2.out (by omega) (by omega)).mono ?_; rintro e wp ⟨P1, p1, q1, P2, p2, q2, rfl, hp, hpm, hbp, hbW⟩; (first | (have hzb := (blk_new _ _ _).below hbW (by simp)) | (replace hzb := hzb.below hbW hzb.lt) | skip); have Hp := Lib.hid hp; have szp := hbp.size; clear hp hpm hbW
                refine hK.out _ _ (by first | with_reducible exact (C8.out.fresh hbp).five | with_reducible exact (C8.out.fresh (below_alloc hbp _)).five) ?_
                clear hK K
                try simp only [Act.put, List.getElem_toArray, List.getElem_cons_zero, List.getElem_cons_succ, List.setIfInBounds_toArray, List.set_cons_zero, List.set_cons_succ]
                have hS5 := (C8.out.fresh hbp).five
                refine wpAnyT_take (i := 4) (v := ?_) rfl (by kernel_rfl) (by kernel_rfl) (by kernel_rfl) (by kernel_rfl) (fun _ _ _ h => h) (Or.inl ⟨by rfl, ?_⟩) (by assumption) ?_
                rotate_left
                · (intro w hSw; (try dsimp only at hSw); first | (go_simp; done) | (go_simp; with_reducible rfl))
                try simp only [Act.put, List.getElem_toArray, List.getElem_cons_zero, List.getElem_cons_succ, List.setIfInBounds_toArray, List.set_cons_zero, List.set_cons_succ]
                refine wpAnyT_take (i := 5) (v := ?_) rfl (by kernel_rfl) (by kernel_rfl) (by kernel_rfl) (by kernel_rfl) (fun _ _ _ h => h) (Or.inl ⟨by rfl, ?_⟩) (by assumption) ?_
                rotate_left
                · (intro w hSw; (try dsimp only at hSw); first | (go_simp; done) | (go_simp; with_reducible rfl))
                try simp only [Act.put, List.getElem_toArray, List.getElem_cons_zero, List.getElem_cons_succ, List.setIfInBounds_toArray, List.set_cons_zero, List.set_cons_succ]
                refine wpAnyT_two (i := 6) (j := 17) (by kernel_rfl) rfl rfl (fun K hK => ?_) (fun K hK => ?_)
                · skip
                  go_simp; refine (first_any _ _ _ _ _ _ _).mono ?_; rintro e wf ⟨rfl, rfl⟩
                  refine hK.out _ _ (by first | with_reducible exact (C8.out.fresh hbp).five | with_reducible exact (C8.out.fresh (below_alloc hbp _)).five) ?_
                  clear hK K
                  try simp only [Act.put, List.getElem_toArray, List.getElem_cons_zero, List.getElem_cons_succ, List.setIfInBounds_toArray, List.set_cons_zero, List.set_cons_succ]
                  refine wpAnyT_two (i := 9) (j := 17) (by kernel_rfl) rfl rfl (fun K hK => ?_) (fun K hK => ?_)
                  · skip
                    go_simp; refine (canons1_from (b0 := w78) (by first | exact hbp | exact below_alloc hbp _) (s := s) (by omega) (by omega) D8.out E8.out HL1.out HL2.out (by omega) (by omega)).mono ?_; rintro e wq ⟨P3, p3, q3, P4, p4, q4, rfl, hp, hpm, hbq, hbW⟩; (first | (have hzb := (blk_new _ _ _).below hbW (by simp)) | (replace hzb := hzb.below hbW hzb.lt) | skip); have hpq : Below wp.heap.size wp wq := (by first | exact hbW | exact below_unalloc hbW); have Hpp := Lib.hid (TysV.fresh Hp.out hpq); have Hpm := Lib.hid hpm; have szq := hpq.size; clear hp hpm hbW hpq
                    refine hK.out _ _ (by first | with_reducible exact (C8.out.fresh hbq).five | with_reducible exact (C8.out.fresh (below_alloc hbq _)).five) ?_
                    clear hK K
                    try simp only [Act.put, List.getElem_toArray, List.getElem_cons_zero, List.getElem_cons_succ, List.setIfInBounds_toArray, List.set_cons_zero, List.set_cons_succ]
                    have hS5 := (C8.out.fresh hbq).five
                    refine wpAnyT_take (i := 10) (v := ?_) rfl (by kernel_rfl) (by kernel_rfl) (by kernel_rfl) (by kernel_rfl) (fun _ _ _ h => h) (Or.inl ⟨by rfl, ?_⟩) (by assumption) ?_
                    rotate_left
                    · (intro w hSw; (try dsimp only at hSw); first | (go_simp; done) | (go_simp; with_reducible rfl))
                    try simp only [Act.put, List.getElem_toArray, List.getElem_cons_zero, List.getElem_cons_succ, List.setIfInBounds_toArray, List.set_cons_zero, List.set_cons_succ]
                    refine wpAnyT_take (i := 11) (v := ?_) rfl (by kernel_rfl) (by kernel_rfl) (by kernel_rfl) (by kernel_rfl) (fun _ _ _ h => h) (Or.inl ⟨by rfl, ?_⟩) (by assumption) ?_
                    rotate_left
                    · (intro w hSw; (try dsimp only at hSw); first | (go_simp; done) | (go_simp; with_reducible rfl))
                    try simp only [Act.put, List.getElem_toArray, List.getElem_cons_zero, List.getElem_cons_succ, List.setIfInBounds_toArray, List.set_cons_zero, List.set_cons_succ]
                    refine wpAnyT_two (i := 12) (j := 17) (by kernel_rfl) rfl rfl (fun K hK => ?_) (fun K hK => ?_)
                    · skip
                      go_simp; refine (second_any _ _ _ _ _ _ _).mono ?_; rintro e wg ⟨rfl, rfl⟩
                      refine hK.out _ _ (by first | with_reducible exact (C8.out.fresh hbq).five | with_reducible exact (C8.out.fresh (below_alloc hbq _)).five) ?_
                      clear hK K
                      try simp only [Act.put, List.getElem_toArray, List.getElem_cons_zero, List.getElem_cons_succ, List.setIfInBounds_toArray, List.set_cons_zero, List.set_cons_succ]
                      refine wpAnyT_two (i := 13) (j := 17) (by kernel_rfl) rfl rfl (fun K hK => ?_) (fun K hK => ?_)
                      · skip
                        go_simp; have hlp : p1 ≤ 1099511627776 := (by have := Hpp.out.1; rw [List.length_map] at this; have := Hb7.out; omega); (first | have hgx := hzb.lt | skip); refine (put_from (b0 := wq) (by first | exact Below.refl _ _ | exact below_box _) HPs.out.2 HPs.out.1 (C8.out.fresh hbq).2 Hpp.out Hpm.out hlp).mono ?_; rintro e wr ⟨X, mx, cx, rfl, hx, hqr, hbW⟩; (first | (have hzb := (blk_new _ _ _).below hbW (by simp)) | (replace hzb := hzb.below hbW hzb.lt) | skip); have hbr := hbq.trans (hqr.mono hbq.size); have HX := Lib.hid hx; have szr := hqr.size; clear hx hbW Hpp Hpm hlp
                        refine hK.out _ _ (by first | with_reducible exact (C8.out.fresh hbr).five | with_reducible exact (C8.out.fresh (below_alloc hbr _)).five) ?_
                        clear hK K
                        try simp only [Act.put, List.getElem_toArray, List.getElem_cons_zero, List.getElem_cons_succ, List.setIfInBounds_toArray, List.set_cons_zero, List.set_cons_succ]
                        have hS5 := (C8.out.fresh hbr).five
                        refine wpAnyT_take (i := 14) (v := ?_) rfl (by kernel_rfl) (by kernel_rfl) (by kernel_rfl) (by kernel_rfl) (fun _ _ _ h => h) (Or.inl ⟨by rfl, ?_⟩) (by assumption) ?_
                        rotate_left
                        · (intro w hSw; (try dsimp only at hSw); first | (go_simp; done) | (go_simp; with_reducible rfl))
                        try simp only [Act.put, List.getElem_toArray, List.getElem_cons_zero, List.getElem_cons_succ, List.setIfInBounds_toArray, List.set_cons_zero, List.set_cons_succ]
                        refine wpAnyT_take (i := 15) (v := ?_) rfl (by kernel_rfl) (by kernel_rfl) (by kernel_rfl) (by kernel_rfl) (fun _ _ _ h => h) (Or.inl ⟨by rfl, ?_⟩) (by assumption) ?_
                        rotate_left
                        · (intro w hSw; (try dsimp only at hSw); first | (go_simp; done) | (go_simp; with_reducible rfl))
                        try simp only [Act.put, List.getElem_toArray, List.getElem_cons_zero, List.getElem_cons_succ, List.setIfInBounds_toArray, List.set_cons_zero, List.set_cons_succ]
                        refine wpAnyT_take (i := 16) (v := ?_) rfl (by kernel_rfl) (by kernel_rfl) (by kernel_rfl) (by kernel_rfl) (fun _ _ _ h => h) (Or.inl ⟨by rfl, ?_⟩) (by assumption) ?_
                        rotate_left
                        · (intro w hSw; (try dsimp only at hSw); first | (go_simp; done) | (go_simp; with_reducible rfl))
                        try simp only [Act.put, List.getElem_toArray, List.getElem_cons_zero, List.getElem_cons_succ, List.setIfInBounds_toArray, List.set_cons_zero, List.set_cons_succ]
                        refine wpAnyT_step (i := 17) (by kernel_rfl) rfl (fun K hK => ?_)
                        go_simp
                        refine hK.out _ _ (by first | with_reducible exact (C8.out.fresh hbr).five | with_reducible exact (C8.out.fresh (below_alloc hbr _)).five) ?_
                        clear hK K
                        try simp only [Act.put, List.getElem_toArray, List.getElem_cons_zero, List.getElem_cons_succ, List.setIfInBounds_toArray, List.set_cons_zero, List.set_cons_succ]
                        (first | (have zc0 := hzb.cell 0; have zc1 := hzb.cell 1; have zc2 := hzb.cell 2; have zc3 := hzb.cell 3; have zc4 := hzb.cell 4; have zf0 := hzb.frozen 0; have zf1 := hzb.frozen 1; have zf2 := hzb.frozen 2; have zf3 := hzb.frozen 3; have zf4 := hzb.frozen 4) | skip)
                        have hgxb : w3.heap.size < w78.heap.size := C8.out.lt
                        have szd := hd.size
                        (first
                          | (have hF := five_setz hzb (.int .u8 (y).k) (.int .i64 (y).n) (.int .i64 (y).v) (.int .u8 (y).c) (.slice X mx cx) (C8.out.fresh hbr).five (by omega))
                          | (have hF := (C8.out.fresh (below_alloc hbr (Obj.cells #[.int .u8 (y).k, .int .i64 (y).n, .int .i64 (y).v, .int .u8 (y).c, .slice X mx cx] 27))).five))
                        refine wpAnyT_step (i := 18) (by kernel_rfl) rfl (fun K hK => ?_)
                        go_simp
                        refine hK.out _ _ hF ?_
                        clear hK K
                        try simp only [Act.put, List.getElem_toArray, List.getElem_cons_zero, List.getElem_cons_succ, List.setIfInBounds_toArray, List.set_cons_zero, List.set_cons_succ]
                        refine wpAnyT_step (i := 19) (by kernel_rfl) rfl (fun K hK => ?_)
                        go_simp
                        refine hK.out _ _ hF ?_
                        clear hK K
                        try simp only [Act.put, List.getElem_toArray, List.getElem_cons_zero, List.getElem_cons_succ, List.setIfInBounds_toArray, List.set_cons_zero, List.set_cons_succ]
                        clear hF
                        (first
                          | (have hG := box_set (cs := #[]) hzb HX.out (by first | exact hgx | simp) hbr (by omega))
                          | (have hG := box_lay HX.out hbr))
                        have HG := Lib.hid hG
                        clear hG
                        refine wpAnyT_seq 20 (by omega) (by rfl) (by kernel_rfl) ?_
                        simp only [List.drop_succ_cons, List.drop_zero]
                        go_wp2_with fail
                        refine NoPanic.normal ?_
                        go_wp2_with fail
                        go_meet
                        with_reducible exact ⟨_, X, mx, cx, rfl, rfl, HG.out.1, HG.out.2⟩
                      · skip
                        go_simp
                        refine hK.out _ _ (by first | with_reducible exact (C8.out.fresh hbq).five | with_reducible exact (C8.out.fresh (below_alloc hbq _)).five) ?_
                        clear hK K
                        try simp only [Act.put, List.getElem_toArray, List.getElem_cons_zero, List.getElem_cons_succ, List.setIfInBounds_toArray, List.set_cons_zero, List.set_cons_succ]
                        refine wpAnyT_step (i := 13) (by kernel_rfl) rfl (fun K hK => ?_)
                        go_simp; have hlp : p1 ≤ 1099511627776 := (by have := Hpp.out.1; rw [List.length_map] at this; have := Hb7.out; omega); (first | have hgx := hzb.lt | skip); refine (put_from (b0 := wq) (by first | exact Below.refl _ _ | exact below_box _) HPs.out.2 HPs.out.1 (C8.out.fresh hbq).2 Hpp.out Hpm.out hlp).mono ?_; rintro e wr ⟨X, mx, cx, rfl, hx, hqr, hbW⟩; (first | (have hzb := (blk_new _ _ _).below hbW (by simp)) | (replace hzb := hzb.below hbW hzb.lt) | skip); have hbr := hbq.trans (hqr.mono hbq.size); have HX := Lib.hid hx; have szr := hqr.size; clear hx hbW Hpp Hpm hlp
                        refine hK.out _ _ (by first | with_reducible exact (C8.out.fresh hbr).five | with_reducible exact (C8.out.fresh (below_alloc hbr _)).five) ?_
                        clear hK K
                        try simp only [Act.put, List.getElem_toArray, List.getElem_cons_zero, List.getElem_cons_succ, List.setIfInBounds_toArray, List.set_cons_zero, List.set_cons_succ]
                        have hS5 := (C8.out.fresh hbr).five
                        refine wpAnyT_take (i := 14) (v := ?_) rfl (by kernel_rfl) (by kernel_rfl) (by kernel_rfl) (by kernel_rfl) (fun _ _ _ h => h) (Or.inl ⟨by rfl, ?_⟩) (by assumption) ?_
                        rotate_left
                        · (intro w hSw; (try dsimp only at hSw); first | (go_simp; done) | (go_simp; with_reducible rfl))
                        try simp only [Act.put, List.getElem_toArray, List.getElem_cons_zero, List.getElem_cons_succ, List.setIfInBounds_toArray, List.set_cons_zero, List.set_cons_succ]
                        refine wpAnyT_take (i := 15) (v := ?_) rfl (by kernel_rfl) (by kernel_rfl) (by kernel_rfl) (by kernel_rfl) (fun _ _ _ h => h) (Or.inl ⟨by rfl, ?_⟩) (by assumption) ?_
                        rotate_left
                        · (intro w hSw; (try dsimp only at hSw); first | (go_simp; done) | (go_simp; with_reducible rfl))
                        try simp only [Act.put, List.getElem_toArray, List.getElem_cons_zero, List.getElem_cons_succ, List.setIfInBounds_toArray, List.set_cons_zero, List.set_cons_succ]
                        refine wpAnyT_take (i := 16) (v := ?_) rfl (by kernel_rfl) (by kernel_rfl) (by kernel_rfl) (by kernel_rfl) (fun _ _ _ h => h) (Or.inl ⟨by rfl, ?_⟩) (by assumption) ?_
                        rotate_left
                        · (intro w hSw; (try dsimp only at hSw); first | (go_simp; done) | (go_simp; with_reducible rfl))
                        try simp only [Act.put, List.getElem_toArray, List.getElem_cons_zero, List.getElem_cons_succ, List.setIfInBounds_toArray, List.set_cons_zero, List.set_cons_succ]
                        (first | (have zc0 := hzb.cell 0; have zc1 := hzb.cell 1; have zc2 := hzb.cell 2; have zc3 := hzb.cell 3; have zc4 := hzb.cell 4; have zf0 := hzb.frozen 0; have zf1 := hzb.frozen 1; have zf2 := hzb.frozen 2; have zf3 := hzb.frozen 3; have zf4 := hzb.frozen 4) | skip)
                        have hgxb : w3.heap.size < w78.heap.size := C8.out.lt
                        have szd := hd.size
                        (first
                          | (have hF := five_setz hzb (.int .u8 (y).k) (.int .i64 (y).n) (.int .i64 (y).v) (.int .u8 (y).c) (.slice X mx cx) (C8.out.fresh hbr).five (by omega))
                          | (have hF := (C8.out.fresh (below_alloc hbr (Obj.cells #[.int .u8 (y).k, .int .i64 (y).n, .int .i64 (y).v, .int .u8 (y).c, .slice X mx cx] 27))).five))
                        refine wpAnyT_step (i := 18) (by kernel_rfl) rfl (fun K hK => ?_)
                        go_simp
                        refine hK.out _ _ hF ?_
                        clear hK K
                        try simp only [Act.put, List.getElem_toArray, List.getElem_cons_zero, List.getElem_cons_succ, List.setIfInBounds_toArray, List.set_cons_zero, List.set_cons_succ]
                        refine wpAnyT_step (i := 19) (by kernel_rfl) rfl (fun K hK => ?_)
                        go_simp
                        refine hK.out _ _ hF ?_
                        clear hK K
                        try simp only [Act.put, List.getElem_toArray, List.getElem_cons_zero, List.getElem_cons_succ, List.setIfInBounds_toArray, List.set_cons_zero, List.set_cons_succ]
                        clear hF
                        (first
                          | (have hG := box_set (cs := #[]) hzb HX.out (by first | exact hgx | simp) hbr (by omega))
                          | (have hG := box_lay HX.out hbr))
                        have HG := Lib.hid hG
                        clear hG
                        refine wpAnyT_seq 20 (by omega) (by rfl) (by kernel_rfl) ?_
                        simp only [List.drop_succ_cons, List.drop_zero]
                        go_wp2_with fail
                        refine NoPanic.normal ?_
                        go_wp2_with fail
                        go_meet
                        with_reducible exact ⟨_, X, mx, cx, rfl, rfl, HG.out.1, HG.out.2⟩
                    · skip
                      go_simp
                      refine hK.out _ _ (by first | with_reducible exact (C8.out.fresh hbq).five | with_reducible exact (C8.out.fresh (below_alloc hbq _)).five) ?_
                      clear hK K
                      try simp only [Act.put, List.getElem_toArray, List.getElem_cons_zero, List.getElem_cons_succ, List.setIfInBounds_toArray, List.set_cons_zero, List.set_cons_succ]
                      refine wpAnyT_step (i := 12) (by kernel_rfl) rfl (fun K hK => ?_)
                      go_simp; refine (second_any _ _ _ _ _ _ _).mono ?_; rintro e wg ⟨rfl, rfl⟩
                      refine hK.out _ _ (by first | with_reducible exact (C8.out.fresh hbq).five | with_reducible exact (C8.out.fresh (below_alloc hbq _)).five) ?_
                      clear hK K
                      try simp only [Act.put, List.getElem_toArray, List.getElem_cons_zero, List.getElem_cons_succ, List.setIfInBounds_toArray, List.set_cons_zero, List.set_cons_succ]
                      refine wpAnyT_step (i := 13) (by kernel_rfl) rfl (fun K hK => ?_)
                      go_simp; have hlp : p1 ≤ 1099511627776 := (by have := Hpp.out.1; rw [List.length_map] at this; have := Hb7.out; omega); (first | have hgx := hzb.lt | skip); refine (put_from (b0 := wq) (by first | exact Below.refl _ _ | exact below_box _) HPs.out.2 HPs.out.1 (C8.out.fresh hbq).2 Hpp.out Hpm.out hlp).mono ?_; rintro e wr ⟨X, mx, cx, rfl, hx, hqr, hbW⟩; (first | (have hzb := (blk_new _ _ _).below hbW (by simp)) | (replace hzb := hzb.below hbW hzb.lt) | skip); have hbr := hbq.trans (hqr.mono hbq.size); have HX := Lib.hid hx; have szr := hqr.size; clear hx hbW Hpp Hpm hlp
                      refine hK.out _ _ (by first | with_reducible exact (C8.out.fresh hbr).five | with_reducible exact (C8.out.fresh (below_alloc hbr _)).five) ?_
                      clear hK K
                      try simp only [Act.put, List.getElem_toArray, List.getElem_cons_zero, List.getElem_cons_succ, List.setIfInBounds_toArray, List.set_cons_zero, List.set_cons_succ]
                      have hS5 := (C8.out.fresh hbr).five
                      refine wpAnyT_take (i := 14) (v := ?_) rfl (by kernel_rfl) (by kernel_rfl) (by kernel_rfl) (by kernel_rfl) (fun _ _ _ h => h) (Or.inl ⟨by rfl, ?_⟩) (by assumption) ?_
                      rotate_left
                      · (intro w hSw; (try dsimp only at hSw); first | (go_simp; done) | (go_simp; with_reducible rfl))
                      try simp only [Act.put, List.getElem_toArray, List.getElem_cons_zero, List.getElem_cons_succ, List.setIfInBounds_toArray, List.set_cons_zero, List.set_cons_succ]
                      refine wpAnyT_take (i := 15) (v := ?_) rfl (by kernel_rfl) (by kernel_rfl) (by kernel_rfl) (by kernel_rfl) (fun _ _ _ h => h) (Or.inl ⟨by rfl, ?_⟩) (by assumption) ?_
                      rotate_left
                      · (intro w hSw; (try dsimp only at hSw); first | (go_simp; done) | (go_simp; with_reducible rfl))
                      try simp only [Act.put, List.getElem_toArray, List.getElem_cons_zero, List.getElem_cons_succ, List.setIfInBounds_toArray, List.set_cons_zero, List.set_cons_succ]
                      refine wpAnyT_take (i := 16) (v := ?_) rfl (by kernel_rfl) (by kernel_rfl) (by kernel_rfl) (by kernel_rfl) (fun _ _ _ h => h) (Or.inl ⟨by rfl, ?_⟩) (by assumption) ?_
                      rotate_left
                      · (intro w hSw; (try dsimp only at hSw); first | (go_simp; done) | (go_simp; with_reducible rfl))
                      try simp only [Act.put, List.getElem_toArray, List.getElem_cons_zero, List.getElem_cons_succ, List.setIfInBounds_toArray, List.set_cons_zero, List.set_cons_succ]
                      (first | (have zc0 := hzb.cell 0; have zc1 := hzb.cell 1; have zc2 := hzb.cell 2; have zc3 := hzb.cell 3; have zc4 := hzb.cell 4; have zf0 := hzb.frozen 0; have zf1 := hzb.frozen 1; have zf2 := hzb.frozen 2; have zf3 := hzb.frozen 3; have zf4 := hzb.frozen 4) | skip)
                      have hgxb : w3.heap.size < w78.heap.size := C8.out.lt
                      have szd := hd.size
                      (first
                        | (have hF := five_setz hzb (.int .u8 (y).k) (.int .i64 (y).n) (.int .i64 (y).v) (.int .u8 (y).c) (.slice X mx cx) (C8.out.fresh hbr).five (by omega))
                        | (have hF := (C8.out.fresh (below_alloc hbr (Obj.cells #[.int .u8 (y).k, .int .i64 (y).n, .int .i64 (y).v, .int .u8 (y).c, .slice X mx cx] 27))).five))
                      refine wpAnyT_step (i := 18) (by kernel_rfl) rfl (fun K hK => ?_)
                      go_simp
                      refine hK.out _ _ hF ?_
                      clear hK K
                      try simp only [Act.put, List.getElem_toArray, List.getElem_cons_zero, List.getElem_cons_succ, List.setIfInBounds_toArray, List.set_cons_zero, List.set_cons_succ]
                      refine wpAnyT_step (i := 19) (by kernel_rfl) rfl (fun K hK => ?_)
                      go_simp
                      refine hK.out _ _ hF ?_
                      clear hK K
                      try simp only [Act.put, List.getElem_toArray, List.getElem_cons_zero, List.getElem_cons_succ, List.setIfInBounds_toArray, List.set_cons_zero, List.set_cons_succ]
                      clear hF
                      (first
                        | (have hG := box_set (cs := #[]) hzb HX.out (by first | exact hgx | simp) hbr (by omega))
                        | (have hG := box_lay HX.out hbr))
                      have HG := Lib.hid hG
                      clear hG
                      refine wpAnyT_seq 20 (by omega) (by rfl) (by kernel_rfl) ?_
                      simp only [List.drop_succ_cons, List.drop_zero]
                      go_wp2_with fail
                      refine NoPanic.normal ?_
                      go_wp2_with fail
                      go_meet
                      with_reducible exact ⟨_, X, mx, cx, rfl, rfl, HG.out.1, HG.out.2⟩
                  · skip
                    go_simp
                    refine hK.out _ _ (by first | with_reducible exact (C8.out.fresh hbp).five | with_reducible exact (C8.out.fresh (below_alloc hbp _)).five) ?_
                    clear hK K
                    try simp only [Act.put, List.getElem_toArray, List.getElem_cons_zero, List.getElem_cons_succ, List.setIfInBounds_toArray, List.set_cons_zero, List.set_cons_succ]
                    refine wpAnyT_step (i := 9) (by kernel_rfl) rfl (fun K hK => ?_)
                    go_simp; refine (canons1_from (b0 := w78) (by first | exact hbp | exact below_alloc hbp _) (s := s) (by omega) (by omega) D8.out E8.out HL1.out HL2.out (by omega) (by omega)).mono ?_; rintro e wq ⟨P3, p3, q3, P4, p4, q4, rfl, hp, hpm, hbq, hbW⟩; (first | (have hzb := (blk_new _ _ _).below hbW (by simp)) | (replace hzb := hzb.below hbW hzb.lt) | skip); have hpq : Below wp.heap.size wp wq := (by first | exact hbW | exact below_unalloc hbW); have Hpp := Lib.hid (TysV.fresh Hp.out hpq); have Hpm := Lib.hid hpm; have szq := hpq.size; clear hp hpm hbW hpq
                    refine hK.out _ _ (by first | with_reducible exact (C8.out.fresh hbq).five | with_reducible exact (C8.out.fresh (below_alloc hbq _)).five) ?_
                    clear hK K
                    try simp only [Act.put, List.getElem_toArray, List.getElem_cons_zero, List.getElem_cons_succ, List.setIfInBounds_toArray, List.set_cons_zero, List.set_cons_succ]
                    have hS5 := (C8.out.fresh hbq).five
                    refine wpAnyT_take (i := 10) (v := ?_) rfl (by kernel_rfl) (by kernel_rfl) (by kernel_rfl) (by kernel_rfl) (fun _ _ _ h => h) (Or.inl ⟨by rfl, ?_⟩) (by assumption) ?_
                    rotate_left
                    · (intro w hSw; (try dsimp only at hSw); first | (go_simp; done) | (go_simp; with_reducible rfl))
                    try simp only [Act.put, List.getElem_toArray, List.getElem_cons_zero, List.getElem_cons_succ, List.setIfInBounds_toArray, List.set_cons_zero, List.set_cons_succ]
                    refine wpAnyT_take (i := 11) (v := ?_) rfl (by kernel_rfl) (by kernel_rfl) (by kernel_rfl) (by kernel_rfl) (fun _ _ _ h => h) (Or.inl ⟨by rfl, ?_⟩) (by assumption) ?_
                    rotate_left
                    · (intro w hSw; (try dsimp only at hSw); first | (go_simp; done) | (go_simp; with_reducible rfl))
                    try simp only [Act.put, List.getElem_toArray, List.getElem_cons_zero, List.getElem_cons_succ, List.setIfInBounds_toArray, List.set_cons_zero, List.set_cons_succ]
                    refine wpAnyT_step (i := 12) (by kernel_rfl) rfl (fun K hK => ?_)
                    go_simp; refine (second_any _ _ _ _ _ _ _).mono ?_; rintro e wg ⟨rfl, rfl⟩
                    refine hK.out _ _ (by first | with_reducible exact (C8.out.fresh hbq).five | with_reducible exact (C8.out.fresh (below_alloc hbq _)).five) ?_
                    clear hK K
                    try simp only [Act.put, List.getElem_toArray, List.getElem_cons_zero, List.getElem_cons_succ, List.setIfInBounds_toArray, List.set_cons_zero, List.set_cons_succ]
                    refine wpAnyT_step (i := 13) (by kernel_rfl) rfl (fun K hK => ?_)
                    go_simp; have hlp : p1 ≤ 1099511627776 := (by have := Hpp.out.1; rw [List.length_map] at this; have := Hb7.out; omega); (first | have hgx := hzb.lt | skip); refine (put_from (b0 := wq) (by first | exact Below.refl _ _ | exact below_box _) HPs.out.2 HPs.out.1 (C8.out.fresh hbq).2 Hpp.out Hpm.out hlp).mono ?_; rintro e wr ⟨X, mx, cx, rfl, hx, hqr, hbW⟩; (first | (have hzb := (blk_new _ _ _).below hbW (by simp)) | (replace hzb := hzb.below hbW hzb.lt) | skip); have hbr := hbq.trans (hqr.mono hbq.size); have HX := Lib.hid hx; have szr := hqr.size; clear hx hbW Hpp Hpm hlp
                    refine hK.out _ _ (by first | with_reducible exact (C8.out.fresh hbr).five | with_reducible exact (C8.out.fresh (below_alloc hbr _)).five) ?_
                    clear hK K
                    try simp only [Act.put, List.getElem_toArray, List.getElem_cons_zero, List.getElem_cons_succ, List.setIfInBounds_toArray, List.set_cons_zero, List.set_cons_succ]
                    have hS5 := (C8.out.fresh hbr).five
                    refine wpAnyT_take (i := 14) (v := ?_) rfl (by kernel_rfl) (by kernel_rfl) (by kernel_rfl) (by kernel_rfl) (fun _ _ _ h => h) (Or.inl ⟨by rfl, ?_⟩) (by assumption) ?_
                    rotate_left
                    · (intro w hSw; (try dsimp only at hSw); first | (go_simp; done) | (go_simp; with_reducible rfl))
                    try simp only [Act.put, List.getElem_toArray, List.getElem_cons_zero, List.getElem_cons_succ, List.setIfInBounds_toArray, List.set_cons_zero, List.set_cons_succ]
                    refine wpAnyT_take (i := 15) (v := ?_) rfl (by kernel_rfl) (by kernel_rfl) (by kernel_rfl) (by kernel_rfl) (fun _ _ _ h => h) (Or.inl ⟨by rfl, ?_⟩) (by assumption) ?_
                    rotate_left
                    · (intro w hSw; (try dsimp only at hSw); first | (go_simp; done) | (go_simp; with_reducible rfl))
                    try simp only [Act.put, List.getElem_toArray, List.getElem_cons_zero, List.getElem_cons_succ, List.setIfInBounds_toArray, List.set_cons_zero, List.set_cons_succ]
                    refine wpAnyT_take (i := 16) (v := ?_) rfl (by kernel_rfl) (by kernel_rfl) (by kernel_rfl) (by kernel_rfl) (fun _ _ _ h => h) (Or.inl ⟨by rfl, ?_⟩) (by assumption) ?_
                    rotate_left
                    · (intro w hSw; (try dsimp only at hSw); first | (go_simp; done) | (go_simp; with_reducible rfl))
                    try simp only [Act.put, List.getElem_toArray, List.getElem_cons_zero, List.getElem_cons_succ, List.setIfInBounds_toArray, List.set_cons_zero, List.set_cons_succ]
                    (first | (have zc0 := hzb.cell 0; have zc1 := hzb.cell 1; have zc2 := hzb.cell 2; have zc3 := hzb.cell 3; have zc4 := hzb.cell 4; have zf0 := hzb.frozen 0; have zf1 := hzb.frozen 1; have zf2 := hzb.frozen 2; have zf3 := hzb.frozen 3; have zf4 := hzb.frozen 4) | skip)
                    have hgxb : w3.heap.size < w78.heap.size := C8.out.lt
                    have szd := hd.size
                    (first
                      | (have hF := five_setz hzb (.int .u8 (y).k) (.int .i64 (y).n) (.int .i64 (y).v) (.int .u8 (y).c) (.slice X mx cx) (C8.out.fresh hbr).five (by omega))
                      | (have hF := (C8.out.fresh (below_alloc hbr (Obj.cells #[.int .u8 (y).k, .int .i64 (y).n, .int .i64 (y).v, .int .u8 (y).c, .slice X mx cx] 27))).five))
                    refine wpAnyT_step (i := 18) (by kernel_rfl) rfl (fun K hK => ?_)
                    go_simp
                    refine hK.out _ _ hF ?_
                    clear hK K
                    try simp only [Act.put, List.getElem_toArray, List.getElem_cons_zero, List.getElem_cons_succ, List.setIfInBounds_toArray, List.set_cons_zero, List.set_cons_succ]
                    refine wpAnyT_step (i := 19) (by kernel_rfl) rfl (fun K hK => ?_)
                    go_simp
                    refine hK.out _ _ hF ?_
                    clear hK K
                    try simp only [Act.put, List.getElem_toArray, List.getElem_cons_zero, List.getElem_cons_succ, List.setIfInBounds_toArray, List.set_cons_zero, List.set_cons_succ]
                    clear hF
                    (first
                      | (have hG := box_set (cs := #[]) hzb HX.out (by first | exact hgx | simp) hbr (by omega))
                      | (have hG := box_lay HX.out hbr))
                    have HG := Lib.hid hG
                    clear hG
                    refine wpAnyT_seq 20 (by omega) (by rfl) (by kernel_rfl) ?_
                    simp only [List.drop_succ_cons, List.drop_zero]
                    go_wp2_with fail
                    refine NoPanic.normal ?_
                    go_wp2_with fail
                    go_meet
                    with_reducible exact ⟨_, X, mx, cx, rfl, rfl, HG.out.1, HG.out.2⟩
                · skip
                  go_simp
                  refine hK.out _ _ (by first | with_reducible exact (C8.out.fresh hbp).five | with_reducible exact (C8.out.fresh (below_alloc hbp _)).five) ?_
                  clear hK K
                  try simp only [Act.put, List.getElem_toArray, List.getElem_cons_zero, List.getElem_cons_succ, List.setIfInBounds_toArray, List.set_cons_zero, List.set_cons_succ]
                  refine wpAnyT_step (i := 6) (by kernel_rfl) rfl (fun K hK => ?_)
                  go_simp; refine (first_any _ _ _ _ _ _ _).mono ?_; rintro e wf ⟨rfl, rfl⟩
                  refine hK.out _ _ (by first | with_reducible exact (C8.out.fresh hbp).five | with_reducible exact (C8.out.fresh (below_alloc hbp _)).five) ?_
                  clear hK K
                  try simp only [Act.put, List.getElem_toArray, List.getElem_cons_zero, List.getElem_cons_succ, List.setIfInBounds_toArray, List.set_cons_zero, List.set_cons_succ]
                  refine wpAnyT_step (i := 9) (by kernel_rfl) rfl (fun K hK => ?_)
                  go_simp; refine (canons1_from (b0 := w78) (by first | exact hbp | exact below_alloc hbp _) (s := s) (by omega) (by omega) D8.out E8.out HL1.out HL2.out (by omega) (by omega)).mono ?_; rintro e wq ⟨P3, p3, q3, P4, p4, q4, rfl, hp, hpm, hbq, hbW⟩; (first | (have hzb := (blk_new _ _ _).below hbW (by simp)) | (replace hzb := hzb.below hbW hzb.lt) | skip); have hpq : Below wp.heap.size wp wq := (by first | exact hbW | exact below_unalloc hbW); have Hpp := Lib.hid (TysV.fresh Hp.out hpq); have Hpm := Lib.hid hpm; have szq := hpq.size; clear hp hpm hbW hpq
                  refine hK.out _ _ (by first | with_reducible exact (C8.out.fresh hbq).five | with_reducible exact (C8.out.fresh (below_alloc hbq _)).five) ?_
                  clear hK K
                  try simp only [Act.put, List.getElem_toArray, List.getElem_cons_zero, List.getElem_cons_succ, List.setIfInBounds_toArray, List.set_cons_zero, List.set_cons_succ]
                  have hS5 := (C8.out.fresh hbq).five
                  refine wpAnyT_take (i := 10) (v := ?_) rfl (by kernel_rfl) (by kernel_rfl) (by kernel_rfl) (by kernel_rfl) (fun _ _ _ h => h) (Or.inl ⟨by rfl, ?_⟩) (by assumption) ?_
                  rotate_left
                  · (intro w hSw; (try dsimp only at hSw); first | (go_simp; done) | (go_simp; with_reducible rfl))
                  try simp only [Act.put, List.getElem_toArray, List.getElem_cons_zero, List.getElem_cons_succ, List.setIfInBounds_toArray, List.set_cons_zero, List.set_cons_succ]
                  refine wpAnyT_take (i := 11) (v := ?_) rfl (by kernel_rfl) (by kernel_rfl) (by kernel_rfl) (by kernel_rfl) (fun _ _ _ h => h) (Or.inl ⟨by rfl, ?_⟩) (by assumption) ?_
                  rotate_left
                  · (intro w hSw; (try dsimp only at hSw); first | (go_simp; done) | (go_simp; with_reducible rfl))
                  try simp only [Act.put, List.getElem_toArray, List.getElem_cons_zero, List.getElem_cons_succ, List.setIfInBounds_toArray, List.set_cons_zero, List.set_cons_succ]
                  refine wpAnyT_step (i := 12) (by kernel_rfl) rfl (fun K hK => ?_)
                  go_simp; refine (second_any _ _ _ _ _ _ _).mono ?_; rintro e wg ⟨rfl, rfl⟩
                  refine hK.out _ _ (by first | with_reducible exact (C8.out.fresh hbq).five | with_reducible exact (C8.out.fresh (below_alloc hbq _)).five) ?_
                  clear hK K
                  try simp only [Act.put, List.getElem_toArray, List.getElem_cons_zero, List.getElem_cons_succ, List.setIfInBounds_toArray, List.set_cons_zero, List.set_cons_succ]
                  refine wpAnyT_step (i := 13) (by kernel_rfl) rfl (fun K hK => ?_)
                  go_simp; have hlp : p1 ≤ 1099511627776 := (by have := Hpp.out.1; rw [List.length_map] at this; have := Hb7.out; omega); (first | have hgx := hzb.lt | skip); refine (put_from (b0 := wq) (by first | exact Below.refl _ _ | exact below_box _) HPs.out.2 HPs.out.1 (C8.out.fresh hbq).2 Hpp.out Hpm.out hlp).mono ?_; rintro e wr ⟨X, mx, cx, rfl, hx, hqr, hbW⟩; (first | (have hzb := (blk_new _ _ _).below hbW (by simp)) | (replace hzb := hzb.below hbW hzb.lt) | skip); have hbr := hbq.trans (hqr.mono hbq.size); have HX := Lib.hid hx; have szr := hqr.size; clear hx hbW Hpp Hpm hlp
                  refine hK.out _ _ (by first | with_reducible exact (C8.out.fresh hbr).five | with_reducible exact (C8.out.fresh (below_alloc hbr _)).five) ?_
                  clear hK K
                  try simp only [Act.put, List.getElem_toArray, List.getElem_cons_zero, List.getElem_cons_succ, List.setIfInBounds_toArray, List.set_cons_zero, List.set_cons_succ]
                  have hS5 := (C8.out.fresh hbr).five
                  refine wpAnyT_take (i := 14) (v := ?_) rfl (by kernel_rfl) (by kernel_rfl) (by kernel_rfl) (by kernel_rfl) (fun _ _ _ h => h) (Or.inl ⟨by rfl, ?_⟩) (by assumption) ?_
                  rotate_left
                  · (intro w hSw; (try dsimp only at hSw); first | (go_simp; done) | (go_simp; with_reducible rfl))
                  try simp only [Act.put, List.getElem_toArray, List.getElem_cons_zero, List.getElem_cons_succ, List.setIfInBounds_toArray, List.set_cons_zero, List.set_cons_succ]
                  refine wpAnyT_take (i := 15) (v := ?_) rfl (by kernel_rfl) (by kernel_rfl) (by kernel_rfl) (by kernel_rfl) (fun _ _ _ h => h) (Or.inl ⟨by rfl, ?_⟩) (by assumption) ?_
                  rotate_left
                  · (intro w hSw; (try dsimp only at hSw); first | (go_simp; done) | (go_simp; with_reducible rfl))
                  try simp only [Act.put, List.getElem_toArray, List.getElem_cons_zero, List.getElem_cons_succ, List.setIfInBounds_toArray, List.set_cons_zero, List.set_cons_succ]
                  refine wpAnyT_take (i := 16) (v := ?_) rfl (by kernel_rfl) (by kernel_rfl) (by kernel_rfl) (by kernel_rfl) (fun _ _ _ h => h) (Or.inl ⟨by rfl, ?_⟩) (by assumption) ?_
                  rotate_left
                  · (intro w hSw; (try dsimp only at hSw); first | (go_simp; done) | (go_simp; with_reducible rfl))
                  try simp only [Act.put, List.getElem_toArray, List.getElem_cons_zero, List.getElem_cons_succ, List.setIfInBounds_toArray, List.set_cons_zero, List.set_cons_succ]
                  (first | (have zc0 := hzb.cell 0; have zc1 := hzb.cell 1; have zc2 := hzb.cell 2; have zc3 := hzb.cell 3; have zc4 := hzb.cell 4; have zf0 := hzb.frozen 0; have zf1 := hzb.frozen 1; have zf2 := hzb.frozen 2; have zf3 := hzb.frozen 3; have zf4 := hzb.frozen 4) | skip)
                  have hgxb : w3.heap.size < w78.heap.size := C8.out.lt
                  have szd := hd.size
                  (first
                    | (have hF := five_setz hzb (.int .u8 (y).k) (.int .i64 (y).n) (.int .i64 (y).v) (.int .u8 (y).c) (.slice X mx cx) (C8.out.fresh hbr).five (by omega))
                    | (have hF := (C8.out.fresh (below_alloc hbr (Obj.cells #[.int .u8 (y).k, .int .i64 (y).n, .int .i64 (y).v, .int .u8 (y).c, .slice X mx cx] 27))).five))
                  refine wpAnyT_step (i := 18) (by kernel_rfl) rfl (fun K hK => ?_)
                  go_simp
                  refine hK.out _ _ hF ?_
                  clear hK K
                  try simp only [Act.put, List.getElem_toArray, List.getElem_cons_zero, List.getElem_cons_succ, List.setIfInBounds_toArray, List.set_cons_zero, List.set_cons_succ]
                  refine wpAnyT_step (i := 19) (by kernel_rfl) rfl (fun K hK => ?_)
                  go_simp
                  refine hK.out _ _ hF ?_
                  clear hK K
                  try simp only [Act.put, List.getElem_toArray, List.getElem_cons_zero, List.getElem_cons_succ, List.setIfInBounds_toArray, List.set_cons_zero, List.set_cons_succ]
                  clear hF
                  (first
                    | (have hG := box_set (cs := #[]) hzb HX.out (by first | exact hgx | simp) hbr (by omega))
                    | (have hG := box_lay HX.out hbr))
                  have HG := Lib.hid hG
                  clear hG
                  refine wpAnyT_seq 20 (by omega) (by rfl) (by kernel_rfl) ?_
                  simp only [List.drop_succ_cons, List.drop_zero]
                  go_wp2_with fail
                  refine NoPanic.normal ?_
                  go_wp2_with fail
                  go_meet
                  with_reducible exact ⟨_, X, mx, cx, rfl, rfl, HG.out.1, HG.out.2⟩
              · skip
                go_simp
                refine hK.out _ _ (by first | with_reducible exact (C8.out.fresh hd).five | with_reducible exact (C8.out.fresh (below_alloc hd _)).five) ?_
                clear hK K
                try simp only [Act.put, List.getElem_toArray, List.getElem_cons_zero, List.getElem_cons_succ, List.setIfInBounds_toArray, List.set_cons_zero, List.set_cons_succ]
                refine wpAnyT_step (i := 3) (by kernel_rfl) rfl (fun K hK => ?_)
                go_simp; refine (canons1_from (b0 := w78) (by first | exact hd | exact below_alloc hd _) (s := s) (by omega) (by omega) D8.out E8.out HL1.out HL2.out (by omega) (by omega)).mono ?_; rintro e wp ⟨P1, p1, q1, P2, p2, q2, rfl, hp, hpm, hbp, hbW⟩; (first | (have hzb := (blk_new _ _ _).below hbW (by simp)) | (replace hzb := hzb.below hbW hzb.lt) | skip); have Hp := Lib.hid hp; have szp := hbp.size; clear hp hpm hbW
                refine hK.out _ _ (by first | with_reducible exact (C8.out.fresh hbp).five | with_reducible exact (C8.out.fresh (below_alloc hbp _)).five) ?_
                clear hK K
                try simp only [Act.put, List.getElem_toArray, List.getElem_cons_zero, List.getElem_cons_succ, List.setIfInBounds_toArray, List.set_cons_zero, List.set_cons_succ]
                have hS5 := (C8.out.fresh hbp).five
                refine wpAnyT_take (i := 4) (v := ?_) rfl (by kernel_rfl) (by kernel_rfl) (by kernel_rfl) (by kernel_rfl) (fun _ _ _ h => h) (Or.inl ⟨by rfl, ?_⟩) (by assumption) ?_
                rotate_left
                · (intro w hSw; (try dsimp only at hSw); first | (go_simp; done) | (go_simp; with_reducible rfl))
                try simp only [Act.put, List.getElem_toArray, List.getElem_cons_zero, List.getElem_cons_succ, List.setIfInBounds_toArray, List.set_cons_zero, List.set_cons_succ]
                refine wpAnyT_take (i := 5) (v := ?_) rfl (by kernel_rfl) (by kernel_rfl) (by kernel_rfl) (by kernel_rfl) (fun _ _ _ h => h) (Or.inl ⟨by rfl, ?_⟩) (by assumption) ?_
                rotate_left
                · (intro w hSw; (try dsimp only at hSw); first | (go_simp; done) | (go_simp; with_reducible rfl))
                try simp only [Act.put, List.getElem_toArray, List.getElem_cons_zero, List.getElem_cons_succ, List.setIfInBounds_toArray, List.set_cons_zero, List.set_cons_succ]
                refine wpAnyT_step (i := 6) (by kernel_rfl) rfl (fun K hK => ?_)
                go_simp; refine (first_any _ _ _ _ _ _ _).mono ?_; rintro e wf ⟨rfl, rfl⟩
                refine hK.out _ _ (by first | with_reducible exact (C8.out.fresh hbp).five | with_reducible exact (C8.out.fresh (below_alloc hbp _)).five) ?_
                clear hK K
                try simp only [Act.put, List.getElem_toArray, List.getElem_cons_zero, List.getElem_cons_succ, List.setIfInBounds_toArray, List.set_cons_zero, List.set_cons_succ]
                refine wpAnyT_step (i := 9) (by kernel_rfl) rfl (fun K hK => ?_)
                go_simp; refine (canons1_from (b0 := w78) (by first | exact hbp | exact below_alloc hbp _) (s := s) (by omega) (by omega) D8.out E8.out HL1.out HL2.out (by omega) (by omega)).mono ?_; rintro e wq ⟨P3, p3, q3, P4, p4, q4, rfl, hp, hpm, hbq, hbW⟩; (first | (have hzb := (blk_new _ _ _).below hbW (by simp)) | (replace hzb := hzb.below hbW hzb.lt) | skip); have hpq : Below wp.heap.size wp wq := (by first | exact hbW | exact below_unalloc hbW); have Hpp := Lib.hid (TysV.fresh Hp.out hpq); have Hpm := Lib.hid hpm; have szq := hpq.size; clear hp hpm hbW hpq
                refine hK.out _ _ (by first | with_reducible exact (C8.out.fresh hbq).five | with_reducible exact (C8.out.fresh (below_alloc hbq _)).five) ?_
                clear hK K
                try simp only [Act.put, List.getElem_toArray, List.getElem_cons_zero, List.getElem_cons_succ, List.setIfInBounds_toArray, List.set_cons_zero, List.set_cons_succ]
                have hS5 := (C8.out.fresh hbq).five
                refine wpAnyT_take (i := 10) (v := ?_) rfl (by kernel_rfl) (by kernel_rfl) (by kernel_rfl) (by kernel_rfl) (fun _ _ _ h => h) (Or.inl ⟨by rfl, ?_⟩) (by assumption) ?_
                rotate_left
                · (intro w hSw; (try dsimp only at hSw); first | (go_simp; done) | (go_simp; with_reducible rfl))
                try simp only [Act.put, List.getElem_toArray, List.getElem_cons_zero, List.getElem_cons_succ, List.setIfInBounds_toArray, List.set_cons_zero, List.set_cons_succ]
                refine wpAnyT_take (i := 11) (v := ?_) rfl (by kernel_rfl) (by kernel_rfl) (by kernel_rfl) (by kernel_rfl) (fun _ _ _ h => h) (Or.inl ⟨by rfl, ?_⟩) (by assumption) ?_
                rotate_left
                · (intro w hSw; (try dsimp only at hSw); first | (go_simp; done) | (go_simp; with_reducible rfl))
                try simp only [Act.put, List.getElem_toArray, List.getElem_cons_zero, List.getElem_cons_succ, List.setIfInBounds_toArray, List.set_cons_zero, List.set_cons_succ]
                refine wpAnyT_step (i := 12) (by kernel_rfl) rfl (fun K hK => ?_)
                go_simp; refine (second_any _ _ _ _ _ _ _).mono ?_; rintro e wg ⟨rfl, rfl⟩
                refine hK.out _ _ (by first | with_reducible exact (C8.out.fresh hbq).five | with_reducible exact (C8.out.fresh (below_alloc hbq _)).five) ?_
                clear hK K
                try simp only [Act.put, List.getElem_toArray, List.getElem_cons_zero, List.getElem_cons_succ, List.setIfInBounds_toArray, List.set_cons_zero, List.set_cons_succ]
                refine wpAnyT_step (i := 13) (by kernel_rfl) rfl (fun K hK => ?_)
                go_simp; have hlp : p1 ≤ 1099511627776 := (by have := Hpp.out.1; rw [List.length_map] at this; have := Hb7.out; omega); (first | have hgx := hzb.lt | skip); refine (put_from (b0 := wq) (by first | exact Below.refl _ _ | exact below_box _) HPs.out.2 HPs.out.1 (C8.out.fresh hbq).2 Hpp.out Hpm.out hlp).mono ?_; rintro e wr ⟨X, mx, cx, rfl, hx, hqr, hbW⟩; (first | (have hzb := (blk_new _ _ _).below hbW (by simp)) | (replace hzb := hzb.below hbW hzb.lt) | skip); have hbr := hbq.trans (hqr.mono hbq.size); have HX := Lib.hid hx; have szr := hqr.size; clear hx hbW Hpp Hpm hlp
                refine hK.out _ _ (by first | with_reducible exact (C8.out.fresh hbr).five | with_reducible exact (C8.out.fresh (below_alloc hbr _)).five) ?_
                clear hK K
                try simp only [Act.put, List.getElem_toArray, List.getElem_cons_zero, List.getElem_cons_succ, List.setIfInBounds_toArray, List.set_cons_zero, List.set_cons_succ]
                have hS5 := (C8.out.fresh hbr).five
                refine wpAnyT_take (i := 14) (v := ?_) rfl (by kernel_rfl) (by kernel_rfl) (by kernel_rfl) (by kernel_rfl) (fun _ _ _ h => h) (Or.inl ⟨by rfl, ?_⟩) (by assumption) ?_
                rotate_left
                · (intro w hSw; (try dsimp only at hSw); first | (go_simp; done) | (go_simp; with_reducible rfl))
                try simp only [Act.put, List.getElem_toArray, List.getElem_cons_zero, List.getElem_cons_succ, List.setIfInBounds_toArray, List.set_cons_zero, List.set_cons_succ]
                refine wpAnyT_take (i := 15) (v := ?_) rfl (by kernel_rfl) (by kernel_rfl) (by kernel_rfl) (by kernel_rfl) (fun _ _ _ h => h) (Or.inl ⟨by rfl, ?_⟩) (by assumption) ?_
                rotate_left
                · (intro w hSw; (try dsimp only at hSw); first | (go_simp; done) | (go_simp; with_reducible rfl))
                try simp only [Act.put, List.getElem_toArray, List.getElem_cons_zero, List.getElem_cons_succ, List.setIfInBounds_toArray, List.set_cons_zero, List.set_cons_succ]
                refine wpAnyT_take (i := 16) (v := ?_) rfl (by kernel_rfl) (by kernel_rfl) (by kernel_rfl) (by kernel_rfl) (fun _ _ _ h => h) (Or.inl ⟨by rfl, ?_⟩) (by assumption) ?_
                rotate_left
                · (intro w hSw; (try dsimp only at hSw); first | (go_simp; done) | (go_simp; with_reducible rfl))
                try simp only [Act.put, List.getElem_toArray, List.getElem_cons_zero, List.getElem_cons_succ, List.setIfInBounds_toArray, List.set_cons_zero, List.set_cons_succ]
                (first | (have zc0 := hzb.cell 0; have zc1 := hzb.cell 1; have zc2 := hzb.cell 2; have zc3 := hzb.cell 3; have zc4 := hzb.cell 4; have zf0 := hzb.frozen 0; have zf1 := hzb.frozen 1; have zf2 := hzb.frozen 2; have zf3 := hzb.frozen 3; have zf4 := hzb.frozen 4) | skip)
                have hgxb : w3.heap.size < w78.heap.size := C8.out.lt
                have szd := hd.size
                (first
                  | (have hF := five_setz hzb (.int .u8 (y).k) (.int .i64 (y).n) (.int .i64 (y).v) (.int .u8 (y).c) (.slice X mx cx) (C8.out.fresh hbr).five (by omega))
                  | (have hF := (C8.out.fresh (below_alloc hbr (Obj.cells #[.int .u8 (y).k, .int .i64 (y).n, .int .i64 (y).v, .int .u8 (y).c, .slice X mx cx] 27))).five))
                refine wpAnyT_step (i := 18) (by kernel_rfl) rfl (fun K hK => ?_)
                go_simp
                refine hK.out _ _ hF ?_
                clear hK K
                try simp only [Act.put, List.getElem_toArray, List.getElem_cons_zero, List.getElem_cons_succ, List.setIfInBounds_toArray, List.set_cons_zero, List.set_cons_succ]
                refine wpAnyT_step (i := 19) (by kernel_rfl) rfl (fun K hK => ?_)
                go_simp
                refine hK.out _ _ hF ?_
                clear hK K
                try simp only [Act.put, List.getElem_toArray, List.getElem_cons_zero, List.getElem_cons_succ, List.setIfInBounds_toArray, List.set_cons_zero, List.set_cons_succ]
                clear hF
                (first
                  | (have hG := box_set (cs := #[]) hzb HX.out (by first | exact hgx | simp) hbr (by omega))
                  | (have hG := box_lay HX.out hbr))
                have HG := Lib.hid hG
                clear hG
                refine wpAnyT_seq 20 (by omega) (by rfl) (by kernel_rfl) ?_
                simp only [List.drop_succ_cons, List.drop_zero]
                go_wp2_with fail
                refine NoPanic.normal ?_
                go_wp2_with fail
                go_meet
                with_reducible exact ⟨_, X, mx, cx, rfl, rfl, HG.out.1, HG.out.2⟩
            case rest =>
              obtain ⟨gy, Y, my, cy, rfl, rfl, BY, hbel⟩ := hcut
              have Hw9 := Lib.hid (Hw8.out.trans (hbel.mono Hw8.out.size))
              have B9 := Lib.hid (B8.out.fresh hbel)
              have C9 := Lib.hid (C8.out.fresh hbel)
              have X9 := Lib.hid (X8.out.fresh hbel)
              have Y9 := Lib.hid BY
              obtain ⟨w9, rfl⟩ : ∃ w9, w9 = wc := ⟨_, rfl⟩
              have hcy : canT y = c := by rw [← Hy.out, back_canW Hf1.out s]; exact Hc.out
              have hfy : mayT y = true := by
                rw [← Hy.out]
                exact ren_may Hf1.out (fun n _ => bk_rng s n) (fun v _ => bk_rng s v)
              obtain ⟨j1, hj1⟩ : ∃ l, varsT y = l := ⟨_, rfl⟩
              obtain ⟨j2, hj2⟩ : ∃ l, multsT y = l := ⟨_, rfl⟩
              have hq := canon_u hcy hj1 hj2 hfy Y my cy w9 BY.2
              have Hq := Lib.hid hq
              obtain ⟨a0, a1, a2, a3, a4⟩ := Y9.out.five
              clear BY hbel B8 C8 D8 E8 X8 Hw8 hq hj1 hj2 hcy hfy
              go_wp2_with fail
              refine Hq.out.mono ?_; rintro e w10 ⟨A10, m10, c10, A11, n11, c11, A12, n12, c12, rfl, h10, _, _, hb10⟩
              have hbx := below_box (w := w10) (Obj.cells #[.int .u8 c.k, .int .i64 c.n, .int .i64 c.v, .int .u8 c.c, .slice A10 m10 c10] 27)
              have hgz := BT.new h10
              have hb11 := hb10.trans (hbx.mono hb10.size)
              have Hw11 := Lib.hid (Hw9.out.trans (hb11.mono Hw9.out.size))
              have B11 := Lib.hid (B9.out.fresh hb11)
              have C11 := Lib.hid (C9.out.fresh hb11)
              have X11 := Lib.hid (X9.out.fresh hb11)
              have Z11 := Lib.hid hgz
              obtain ⟨w11, hw11⟩ : ∃ W, w10.alloc (Obj.cells #[.int .u8 c.k, .int .i64 c.n, .int .i64 c.v, .int .u8 c.c, .slice A10 m10 c10] 27) = W := ⟨_, rfl⟩
              obtain ⟨x0, x1, x2, x3, x4⟩ := X11.out.five
              obtain ⟨b0, b1, b2, b3, b4⟩ := B11.out.five
              have Heq11 := Lib.hid hw11
              have hq1 := same_at (a := t) (b := t) ((sameT_iff t t).2 rfl) X mx cx A m cp _ X11.out.2 B11.out.2
              have Hq1 := Lib.hid hq1
              clear hbx hgz hb11 hb10 h10 hw11 hq1 Hq a0 a1 a2 a3 a4 B9 C9 X9 Y9 Hw9
              go_wp2_with fail
              refine Hq1.out.mono ?_; rintro e w12 ⟨rfl, hb12⟩
              have Hw12 := Lib.hid (Hw11.out.trans (hb12.mono Hw11.out.size))
              have C12 := Lib.hid (C11.out.fresh hb12)
              have Z12 := Lib.hid (Z11.out.fresh hb12)
              obtain ⟨z0, z1, z2, z3, z4⟩ := Z12.out.five
              obtain ⟨c0, c1, c2, c3', c4'⟩ := C12.out.five
              have hq2 := same_at (a := c) (b := c) ((sameT_iff c c).2 rfl) A10 m10 c10 A3 m3 c3 w12 Z12.out.2 C12.out.2
              have Hq3 := Lib.hid hq2
              clear hq2 hb12 Hq1 x0 x1 x2 x3 x4 b0 b1 b2 b3 b4 X11 B11 C11 Z11 Hw11
              go_wp2_with fail
              refine Hq3.out.mono ?_; rintro e w13 ⟨rfl, hb13⟩
              have hw13 := Hw12.out.trans (hb13.mono Hw12.out.size)
              clear hb13 z0 z1 z2 z3 z4 c0 c1 c2 c3' c4' Hq3
              go_wp2_with fail
              refine (worksTy_any w13 (Ht.out.below hw13)).mono ?_; rintro e w9 ⟨rfl, hb9⟩
              go_wp2_with fail
              go_ret
              exact ⟨rfl, hw13.trans (hb9.mono hw13.size)⟩
    · have d0 : (xa != 0) = true := by simp [h0]
      clear hb2
      go_wp2_with fail
      refine (worksTy_any w2 (Ht.out.below hw2)).mono ?_; rintro e w9 ⟨rfl, hb9⟩
      go_wp2_with fail
      go_ret
      exact ⟨rfl, hw2.trans (hb9.mono hw2.size)⟩

/-! ### the row's step -/
namespace tyCanons
set_option maxRecDepth 100000 in
theorem lifted (os : Os) (started : os.Started) (H : Type) (enc : TypeId × Value → H) :
    ReturnsInHanded {} Tryd.checked os 7 .any (fun w args => (Rows.tyCanonsSpec.pre enc Tryd.prog Tryd.f7 [] false w args ∧ laidMetH Tryd.prog laid3 w) ∧ sizedMet enc Tryd.prog Tryd.f7 (OpenSpec.ofChange Rows.tyCanonsSpec) false w args) (Rows.tyCanonsSpec.post enc Tryd.prog Tryd.f7 false true false false) := by
  refine returnsInHanded_of_change_and (C := Tryd.checked) (X := fun w _ => laidMetH Tryd.prog laid3 w) (fun _ _ _ hh h => h.of_heap hh) own started (by kernel_rfl) Tryd.func7
    (ChangeSpec.witness_shaped (enc := enc) (C := Tryd.checked) (os := os) (X := fun w _ => laidMetH Tryd.prog laid3 w) false (World.doorLaid Tryd.prog 400 os) #[.agg #[.int .u8 0, .int .i64 0, .int .i64 0, .int .u8 0, .slice none 0 0], .int .i64 0] 8 rfl (World.shaped_of_RefB (by kernel_rfl) (by kernel_rfl)) (by kernel_rfl) (by kernel_rfl) (by kernel_rfl) (door_met os _)) ?_
  intro W base args ds gs before hval0 hW hcnd hsz0 hL _
  have hsz : (DataW.weightsEach Tryd.prog (Tryd.f7.params.toList ++ Rows.tyCanonsSpec.plain.varTypes Tryd.prog) (ds ++ gs)).all (· ≤ reachBytes) = true := hsz0
  have hval : ∀ (j : Nat) t v, Tryd.f7.params[j]? = some t → args[j]? = some v → Value.okWide Tryd.prog W .any base t v := hval0
  have hW' := hW
  obtain ⟨p, q, hA0, hV, rfl, hfz, hnd⟩ := hW
  have hA : DataW.TrodAll enc Tryd.prog W 0 (fun _ => true) true Tryd.f7.params.toList args.toList ds p := hA0
  rw [Tryd.params7] at hA hval hsz
  obtain ⟨v0, vs0, d0, ds0, p0, q0, hargs, rfl, rfl, h0, r_0⟩ := trodAll_cons hA
  obtain ⟨v1, vs1, d1, ds1, p1, q1, rfl, rfl, rfl, h1, r_1⟩ := trodAll_cons r_0
  obtain ⟨rfl, rfl, rfl⟩ := trodAll_nil r_1
  obtain rfl : args = #[v0, v1] := by cases args; simp_all
  obtain ⟨rfl, rfl⟩ := trodVars_none hV
  have w0 := rd_ty (hval 0 27 v0 rfl rfl) h0
  obtain ⟨a1, rfl, _, _, w1⟩ := open_int Tryd.underlying3 (hval 1 3 v1 rfl rfl) h1
  have b1 := bounds_i64 w1
  refine (walk_tyCanons (w := W) (tab_of_laid hL) v0 w0 a1 b1).mono fun e W' ⟨he, bel⟩ => ?_
  subst he
  exact ⟨_, rfl, law_post laidOut (by kernel_rfl) rfl rfl Tryd.underlying4 hW' rfl rfl rfl bel⟩
theorem over : Rows.tyCanonsRow.holds Tryd.pinned (OpenSpec.ofChange Rows.tyCanonsSpec) :=
  OpenClaim.holds_of_wide 7 Tryd.f7 rfl rfl rfl rfl rfl rfl rfl ⟨rfl, rfl, rfl, rfl, rfl⟩ rfl rfl rfl rfl rfl (by kernel_rfl) Tryd.func7 (by kernel_rfl)
    (of_decide_eq_true (by kernel_rfl)) (by unfold Func.isWrapper; first | (rw [if_pos (by decide +kernel)]; kernel_rfl) | (rw [if_neg (by decide +kernel)]; exact ⟨rfl, rfl⟩))
    (fun os started H enc _ => lifted os started H enc)
theorem card : Rows.TyCanonsCardSaid :=
  Claim7.holds_tied_plain_at .later [] [.data, .data, .data] true Rows.tyCanonsCard.stood.harness false
    over (fun _ h => by cases h) (by kernel_rfl) (fun _ h => by cases h) tyCanons_row_tie rfl ⟨rfl, rfl⟩ (by kernel_rfl) rfl
    (fun f fn hf hfn => by
      obtain rfl : f = 7 := Option.some.inj ((show Tryd.prog.funcNamed "usufruct/usufructlaw06.TyCanons" = some 7 by kernel_rfl).symm.trans hf) |>.symm
      obtain rfl : fn = Tryd.f7 := (Option.some.inj (Tryd.func7.symm.trans hfn)).symm
      exact ⟨by kernel_rfl, fun j t ht => by
        rw [Tryd.params7] at ht
        have hm : t ∈ [27, 3] := by simpa using Array.mem_of_getElem? ht
        have hall : ([27, 3].all fun u => !Tryd.prog.wantsStandIn u) = true := by kernel_rfl
        exact (show Tryd.prog.wantsStandIn t = false by simpa using List.all_eq_true.1 hall t hm)⟩)
    (by kernel_rfl)
/-- the statement -/
theorem proved : Rows.TyCanonsCardSaid := card
#print axioms proved
end tyCanons
end Go.Proofs.YtidamlkekgnhgaaDoor
