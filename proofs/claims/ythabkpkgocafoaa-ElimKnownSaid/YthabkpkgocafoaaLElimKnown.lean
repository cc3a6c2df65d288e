/- ElimKnown holds: the document's examples of tables, and the limits. No conditions. -/
import Derived.Test.YthabkpkgocafoaaEaM
import Derived.Test.YthabkpkgocafoaaEaL
namespace Go.Proofs.Ythabkpkgocafoaa
set_option linter.unusedVariables false
set_option linter.unusedSimpArgs false
open Go.ChangeShapes Go.WideShapes Go.ChangeAt Go.RowKit

theorem mk151 (w : World) : ∃ w2, (Instr.makeSlice 23 (.int .i64 151) (.int .i64 151)).run Try.prog w = .ok (.slice (some ⟨w.heap.size, 0, none⟩) 151 151) w2 ∧ RdI .i64 w2 w2.heap.size (some ⟨w.heap.size, 0, none⟩) 151 151 (List.replicate 151 0) ∧ Below w.heap.size w w2 :=
  ⟨_, make_int 151 (by omega) w, rd_blkK (us := List.replicate 151 0) (by rw [List.map_replicate]; exact blk_new w _ _) (by simp) (by unfold maxLen; omega), below_box _⟩
def tab1 : TabD := ⟨[2, 2], [3, 3], [[1, 1], [3, 1]]⟩
def tab2 : TabD := ⟨[1, 1], [3, 2], [[1, 3], [1, 1]]⟩
set_option maxRecDepth 100000 in
set_option maxHeartbeats 4000000 in
theorem walk_elimKnown (w : World) : Calls Try.prog 8 #[] w fun e w' => e = .returned (.bool true) ∧ Below w.heap.size w w' := by
  go_enter Try.func8, Try.ntmps8
  go_wp2_with fail
  have hk := rd_two w .i64 3 0 2
  have hb := below_box (w := w) (Obj.cells #[.int .i64 0, .int .i64 2] 3)
  generalize w.alloc (Obj.cells #[.int .i64 0, .int .i64 2] 3) = w0 at hk hb ⊢
  have Hb0 := Lib.hid hb
  have Hk := Lib.hid hk
  replace hb := Below.refl w0.heap.size w0
  clear hk
  refine (above5_any 2 0 w0).mono ?_; rintro e w1 ⟨rfl, hbc⟩
  replace hb := hb.trans (hbc.mono hb.size)
  clear hbc
  go_wp2_with fail
  refine (below5_any 0 1 1 w1).mono ?_; rintro e w2 ⟨rfl, hbc⟩
  replace hb := hb.trans (hbc.mono hb.size)
  clear hbc
  go_wp2_with fail
  refine (below5_any 1 1 2 w2).mono ?_; rintro e w3 ⟨rfl, hbc⟩
  replace hb := hb.trans (hbc.mono hb.size)
  clear hbc
  go_wp2_with fail
  have hbk : Blk (w3.alloc (Obj.cells #[.int .i64 0, .int .u8 2, .int .u8 1, .int .i64 0, .int .i64 0, .int .u8 0, .int .u8 1, .int .i64 1, .int .i64 1, .int .u8 0, .int .u8 1, .int .i64 2] 31)) w3.heap.size 31 (cellsQ xsE1).toArray := blk_new w3 _ _
  have hbx := below_box (w := w3) (Obj.cells #[.int .i64 0, .int .u8 2, .int .u8 1, .int .i64 0, .int .i64 0, .int .u8 0, .int .u8 1, .int .i64 1, .int .i64 1, .int .u8 0, .int .u8 1, .int .i64 2] 31)
  generalize w3.alloc (Obj.cells #[.int .i64 0, .int .u8 2, .int .u8 1, .int .i64 0, .int .i64 0, .int .u8 0, .int .u8 1, .int .i64 1, .int .i64 1, .int .u8 0, .int .u8 1, .int .i64 2] 31) = w4 at hbk hbx ⊢
  have hx : IneqsV w4 w4.heap.size (some ⟨w3.heap.size, 0, none⟩) 3 3 xsE1 := IneqsV.laid hbk (by unfold maxLen xsE1; simp)
  replace hb := hb.trans (hbx.mono hb.size)
  clear hbk hbx
  refine (project_any 4 (some ⟨w3.heap.size, 0, none⟩) 3 3 xsE1 (some ⟨w.heap.size, 0, none⟩) 2 2 [0, 2] w4 hx ((Hk.out.below hb).more hb.size)).mono ?_
  rintro e w5 ⟨v, t, er, rfl, hv, hR, hbv⟩
  replace hb := hb.trans (hbv.mono hb.size)
  obtain ⟨rfl, ht⟩ := known1 hR
  replace ht : t = tab1 := ht
  subst ht
  obtain ⟨A1, c1, A1', c1', A1'', c1'', rfl, hq1, hq2, hq3⟩ := hv
  have hT := blk_new w5 #[.slice A1 tab1.low.length c1, .slice A1' tab1.up.length c1', .slice A1'' tab1.pair.length c1''] 50
  have hbT := below_box (w := w5) (Obj.cells #[.slice A1 tab1.low.length c1, .slice A1' tab1.up.length c1', .slice A1'' tab1.pair.length c1''] 50)
  have hv : TabV w5 w5.heap.size (.agg #[.slice A1 tab1.low.length c1, .slice A1' tab1.up.length c1', .slice A1'' tab1.pair.length c1'']) tab1 := ⟨_, _, _, _, _, _, rfl, hq1, hq2, hq3⟩
  replace hv := hv.fresh hbT
  replace hb := hb.trans (hbT.mono hb.size)
  obtain ⟨w6, hWn⟩ : ∃ x, w5.alloc (Obj.cells #[.slice A1 tab1.low.length c1, .slice A1' tab1.up.length c1', .slice A1'' tab1.pair.length c1''] 50) = x := ⟨_, rfl⟩
  rw [hWn] at hT hv hb
  have HWn := Lib.hid hWn
  clear hWn hbT hq1 hq2 hq3 hR hbv
  clear hx
  go_wp2_with fail
  rw [HWn.out]
  clear HWn
  have Hk := Lib.hid ((Hk.out.below hb).more hb.size)
  have Hb := Lib.hid (Hb0.out.trans (hb.mono Hb0.out.size))
  have HT1 := Lib.hid hT
  have Hv1 := Lib.hid hv
  clear Hb0 hT hv
  replace hb := Below.refl w6.heap.size w6
  refine (below5_any 2 2 (-1) w6).mono ?_; rintro e w7 ⟨rfl, hbc⟩
  replace hb := hb.trans (hbc.mono hb.size)
  clear hbc
  go_wp2_with fail
  refine (below5_any 2 1 0 w7).mono ?_; rintro e w8 ⟨rfl, hbc⟩
  replace hb := hb.trans (hbc.mono hb.size)
  clear hbc
  go_wp2_with fail
  have hbk : Blk (w8.alloc (Obj.cells #[.int .i64 2, .int .u8 0, .int .u8 2, .int .i64 (-1), .int .i64 2, .int .u8 0, .int .u8 1, .int .i64 0] 31)) w8.heap.size 31 (cellsQ xsE2).toArray := blk_new w8 _ _
  have hbx := below_box (w := w8) (Obj.cells #[.int .i64 2, .int .u8 0, .int .u8 2, .int .i64 (-1), .int .i64 2, .int .u8 0, .int .u8 1, .int .i64 0] 31)
  generalize w8.alloc (Obj.cells #[.int .i64 2, .int .u8 0, .int .u8 2, .int .i64 (-1), .int .i64 2, .int .u8 0, .int .u8 1, .int .i64 0] 31) = w9 at hbk hbx ⊢
  have hx : IneqsV w9 w9.heap.size (some ⟨w8.heap.size, 0, none⟩) 2 2 xsE2 := IneqsV.laid hbk (by unfold maxLen xsE2; simp)
  replace hb := hb.trans (hbx.mono hb.size)
  clear hbk hbx
  refine (project_any 4 (some ⟨w8.heap.size, 0, none⟩) 2 2 xsE2 (some ⟨w.heap.size, 0, none⟩) 2 2 [0, 2] w9 hx ((Hk.out.below hb).more hb.size)).mono ?_
  rintro e w10 ⟨v, t, er, rfl, hv, hR, hbv⟩
  replace hb := hb.trans (hbv.mono hb.size)
  obtain ⟨rfl, ht⟩ := known2 hR
  replace ht : t = tab2 := ht
  subst ht
  obtain ⟨A2, c2, A2', c2', A2'', c2'', rfl, hq1, hq2, hq3⟩ := hv
  have hT := blk_new w10 #[.slice A2 tab2.low.length c2, .slice A2' tab2.up.length c2', .slice A2'' tab2.pair.length c2''] 50
  have hbT := below_box (w := w10) (Obj.cells #[.slice A2 tab2.low.length c2, .slice A2' tab2.up.length c2', .slice A2'' tab2.pair.length c2''] 50)
  have hv : TabV w10 w10.heap.size (.agg #[.slice A2 tab2.low.length c2, .slice A2' tab2.up.length c2', .slice A2'' tab2.pair.length c2'']) tab2 := ⟨_, _, _, _, _, _, rfl, hq1, hq2, hq3⟩
  replace hv := hv.fresh hbT
  replace hb := hb.trans (hbT.mono hb.size)
  obtain ⟨w11, hWn⟩ : ∃ x, w10.alloc (Obj.cells #[.slice A2 tab2.low.length c2, .slice A2' tab2.up.length c2', .slice A2'' tab2.pair.length c2''] 50) = x := ⟨_, rfl⟩
  rw [hWn] at hT hv hb
  have HWn := Lib.hid hWn
  clear hWn hbT hq1 hq2 hq3 hR hbv
  clear hx
  go_wp2_with fail
  rw [HWn.out]
  clear HWn
  have Hk := Lib.hid ((Hk.out.below hb).more hb.size)
  have Hb := Lib.hid (Hb.out.trans (hb.mono Hb.out.size))
  have HT1 := Lib.hid (HT1.out.below hb HT1.out.lt)
  have Hv1 := Lib.hid (Hv1.out.fresh hb)
  have HT2 := Lib.hid hT
  have Hv2 := Lib.hid hv
  clear hT hv
  replace hb := Below.refl w11.heap.size w11
  refine (above5_any 3 1 w11).mono ?_; rintro e w12 ⟨rfl, hbc⟩
  replace hb := hb.trans (hbc.mono hb.size)
  clear hbc
  go_wp2_with fail
  refine (below5_any 1 1 (-1) w12).mono ?_; rintro e w13 ⟨rfl, hbc⟩
  replace hb := hb.trans (hbc.mono hb.size)
  clear hbc
  go_wp2_with fail
  have hbk : Blk (w13.alloc (Obj.cells #[.int .i64 0, .int .u8 3, .int .u8 1, .int .i64 1, .int .i64 1, .int .u8 0, .int .u8 1, .int .i64 (-1)] 31)) w13.heap.size 31 (cellsQ xsE3).toArray := blk_new w13 _ _
  have hbx := below_box (w := w13) (Obj.cells #[.int .i64 0, .int .u8 3, .int .u8 1, .int .i64 1, .int .i64 1, .int .u8 0, .int .u8 1, .int .i64 (-1)] 31)
  generalize w13.alloc (Obj.cells #[.int .i64 0, .int .u8 3, .int .u8 1, .int .i64 1, .int .i64 1, .int .u8 0, .int .u8 1, .int .i64 (-1)] 31) = w14 at hbk hbx ⊢
  have hx : IneqsV w14 w14.heap.size (some ⟨w13.heap.size, 0, none⟩) 2 2 xsE3 := IneqsV.laid hbk (by unfold maxLen xsE3; simp)
  replace hb := hb.trans (hbx.mono hb.size)
  clear hbk hbx
  refine (project_any 4 (some ⟨w13.heap.size, 0, none⟩) 2 2 xsE3 (some ⟨w.heap.size, 0, none⟩) 2 2 [0, 2] w14 hx ((Hk.out.below hb).more hb.size)).mono ?_
  rintro e w15 ⟨v, t, er, rfl, hv, hR, hbv⟩
  replace hb := hb.trans (hbv.mono hb.size)
  obtain rfl := known3 hR
  obtain ⟨A3, c3, A3', c3', A3'', c3'', rfl, hq1, hq2, hq3⟩ := hv
  have hT := blk_new w15 #[.slice A3 t.low.length c3, .slice A3' t.up.length c3', .slice A3'' t.pair.length c3''] 50
  have hbT := below_box (w := w15) (Obj.cells #[.slice A3 t.low.length c3, .slice A3' t.up.length c3', .slice A3'' t.pair.length c3''] 50)
  have hv : TabV w15 w15.heap.size (.agg #[.slice A3 t.low.length c3, .slice A3' t.up.length c3', .slice A3'' t.pair.length c3'']) t := ⟨_, _, _, _, _, _, rfl, hq1, hq2, hq3⟩
  replace hv := hv.fresh hbT
  replace hb := hb.trans (hbT.mono hb.size)
  obtain ⟨w16, hWn⟩ : ∃ x, w15.alloc (Obj.cells #[.slice A3 t.low.length c3, .slice A3' t.up.length c3', .slice A3'' t.pair.length c3''] 50) = x := ⟨_, rfl⟩
  rw [hWn] at hT hv hb
  have HWn := Lib.hid hWn
  clear hWn hbT hq1 hq2 hq3 hR hbv
  obtain ⟨w17, hmk, hz, hbz⟩ := mk151 w16
  rw [← HWn.out] at hmk
  go_wp2_with fail
  clear hmk
  have hs16 : w16.heap.size = w15.heap.size + 1 := by rw [← HWn.out]; simp
  rw [hs16] at hz
  clear hs16
  have Hk := Lib.hid ((Hk.out.below hb).more hb.size)
  have Hb := Lib.hid (Hb.out.trans (hb.mono Hb.out.size))
  have HT1 := Lib.hid (HT1.out.below hb HT1.out.lt)
  have Hv1 := Lib.hid (Hv1.out.fresh hb)
  have HT2 := Lib.hid (HT2.out.below hb HT2.out.lt)
  have Hv2 := Lib.hid (Hv2.out.fresh hb)
  have Hz := Lib.hid hz
  replace hb := hbz
  clear hT hv hbz hz HWn hx
  have Hk := Lib.hid ((Hk.out.below hb).more hb.size)
  have Hb := Lib.hid (Hb.out.trans (hb.mono Hb.out.size))
  have HT1 := Lib.hid (HT1.out.below hb HT1.out.lt)
  have Hv1 := Lib.hid (Hv1.out.fresh hb)
  have HT2 := Lib.hid (HT2.out.below hb HT2.out.lt)
  have Hv2 := Lib.hid (Hv2.out.fresh hb)
  refine (project_any 2 none 0 0 [] _ 151 151 (List.replicate 151 0) w17 IneqsV.nil Hz.out).mono ?_
  rintro e w18 ⟨v, t, er, rfl, hv, hR, hbv⟩
  obtain rfl := (hR.long (by simp)).1
  replace hb := hbv
  obtain ⟨A4, c4, A4', c4', A4'', c4'', rfl, hq1, hq2, hq3⟩ := hv
  have hT := blk_new w18 #[.slice A4 t.low.length c4, .slice A4' t.up.length c4', .slice A4'' t.pair.length c4''] 50
  have hbT := below_box (w := w18) (Obj.cells #[.slice A4 t.low.length c4, .slice A4' t.up.length c4', .slice A4'' t.pair.length c4''] 50)
  have hv : TabV w18 w18.heap.size (.agg #[.slice A4 t.low.length c4, .slice A4' t.up.length c4', .slice A4'' t.pair.length c4'']) t := ⟨_, _, _, _, _, _, rfl, hq1, hq2, hq3⟩
  replace hv := hv.fresh hbT
  replace hb := hb.trans (hbT.mono hb.size)
  obtain ⟨w19, hWn⟩ : ∃ x, w18.alloc (Obj.cells #[.slice A4 t.low.length c4, .slice A4' t.up.length c4', .slice A4'' t.pair.length c4''] 50) = x := ⟨_, rfl⟩
  rw [hWn] at hT hv hb
  have HWn := Lib.hid hWn
  clear hWn hbT hq1 hq2 hq3 hR hbv
  clear hT hv
  have hs19 : w19.heap.size = w18.heap.size + 1 := by rw [← HWn.out]; simp
  have hk2 := rd_two w19 .i64 3 1 1
  have hb2 := below_box (w := w19) (Obj.cells #[.int .i64 1, .int .i64 1] 3)
  obtain ⟨w20, hw20⟩ : ∃ x, w19.alloc (Obj.cells #[.int .i64 1, .int .i64 1] 3) = x := ⟨_, rfl⟩
  rw [hw20] at hk2 hb2
  rw [hs19] at hk2
  have hb20 := hb.trans (hb2.mono hb.size)
  have Hw20 : Hid ((w18.alloc (Obj.cells #[.slice A4 t.low.length c4, .slice A4' t.up.length c4', .slice A4'' t.pair.length c4''] 50)).alloc (Obj.cells #[.int .i64 1, .int .i64 1] 3) = w20) := Lib.hid (by rw [HWn.out]; exact hw20)
  have Hk2 := Lib.hid hk2
  replace hb := hb20
  clear hs19 hk2 hb2 hw20 hb20 HWn
  go_wp2_with fail
  rw [Hw20.out]
  refine (project_any 2 none 0 0 [] _ 2 2 [1, 1] w20 IneqsV.nil Hk2.out).mono ?_
  rintro e w21 ⟨v, t, er, rfl, hv, hR, hbv⟩
  have h5 := known5 hR
  subst h5
  replace hb := hb.trans (hbv.mono hb.size)
  obtain ⟨A5, c5, A5', c5', A5'', c5'', rfl, hq1, hq2, hq3⟩ := hv
  have hT := blk_new w21 #[.slice A5 t.low.length c5, .slice A5' t.up.length c5', .slice A5'' t.pair.length c5''] 50
  have hbT := below_box (w := w21) (Obj.cells #[.slice A5 t.low.length c5, .slice A5' t.up.length c5', .slice A5'' t.pair.length c5''] 50)
  have hv : TabV w21 w21.heap.size (.agg #[.slice A5 t.low.length c5, .slice A5' t.up.length c5', .slice A5'' t.pair.length c5'']) t := ⟨_, _, _, _, _, _, rfl, hq1, hq2, hq3⟩
  replace hv := hv.fresh hbT
  replace hb := hb.trans (hbT.mono hb.size)
  obtain ⟨w22, hWn⟩ : ∃ x, w21.alloc (Obj.cells #[.slice A5 t.low.length c5, .slice A5' t.up.length c5', .slice A5'' t.pair.length c5''] 50) = x := ⟨_, rfl⟩
  rw [hWn] at hT hv hb
  have HWn := Lib.hid hWn
  clear hWn hbT hq1 hq2 hq3 hR hbv
  clear hT hv
  have Hk := Lib.hid ((Hk.out.below hb).more hb.size)
  have Hb := Lib.hid (Hb.out.trans (hb.mono Hb.out.size))
  have HT1 := Lib.hid (HT1.out.below hb HT1.out.lt)
  have Hv1 := Lib.hid (Hv1.out.fresh hb)
  have HT2 := Lib.hid (HT2.out.below hb HT2.out.lt)
  have Hv2 := Lib.hid (Hv2.out.fresh hb)
  have hKS : ∀ W, Below w22.heap.size w22 W → W.cell? ⟨w5.heap.size, 0, none⟩ = some (.slice A1 tab1.low.length c1) ∧ W.cell? ⟨w5.heap.size, 1, none⟩ = some (.slice A1' tab1.up.length c1') ∧ W.cell? ⟨w5.heap.size, 2, none⟩ = some (.slice A1'' tab1.pair.length c1'') ∧ W.cell? ⟨w10.heap.size, 0, none⟩ = some (.slice A2 tab2.low.length c2) ∧ W.cell? ⟨w10.heap.size, 1, none⟩ = some (.slice A2' tab2.up.length c2') ∧ W.cell? ⟨w10.heap.size, 2, none⟩ = some (.slice A2'' tab2.pair.length c2'') := fun W hW => by
    have q1 := HT1.out.below hW HT1.out.lt
    have q2 := HT2.out.below hW HT2.out.lt
    exact ⟨q1.cell 0, q1.cell 1, q1.cell 2, q2.cell 0, q2.cell 1, q2.cell 2⟩
  have HKS := Lib.hid hKS
  clear hKS hb
  go_upto_region 7 with fail
  rw [HWn.out]
  clear HWn
  refine wp_region_noPanic ?_
  refine wp_region_T (fun W => W.cell? ⟨w5.heap.size, 0, none⟩ = some (.slice A1 tab1.low.length c1) ∧ W.cell? ⟨w5.heap.size, 1, none⟩ = some (.slice A1' tab1.up.length c1') ∧ W.cell? ⟨w5.heap.size, 2, none⟩ = some (.slice A1'' tab1.pair.length c1'') ∧ W.cell? ⟨w10.heap.size, 0, none⟩ = some (.slice A2 tab2.low.length c2) ∧ W.cell? ⟨w10.heap.size, 1, none⟩ = some (.slice A2' tab2.up.length c2') ∧ W.cell? ⟨w10.heap.size, 2, none⟩ = some (.slice A2'' tab2.pair.length c2'')) 35 (by kernel_rfl) (HKS.out _ (Below.drew (Below.refl _ _))) (fun hHeld => ?_)
  have hbd : Below w22.heap.size w22 w22.drew := Below.drew (Below.refl _ _)
  generalize w22.drew = W0 at hHeld hbd ⊢
  clear hHeld
  refine wpAnyT_step (i := 0) (by kernel_rfl) rfl (fun K hK => ?_)
  (go_simp; refine (works5_any W0).mono ?_; rintro e V1 ⟨rfl, hb1⟩; have hbW := hbd.trans (hb1.mono hbd.size); clear hb1 hbd)
  refine hK.out _ _ (HKS.out _ hbW) ?_
  clear hK K
  try simp only [Act.put, List.getElem_toArray, List.getElem_cons_zero, List.getElem_cons_succ, List.setIfInBounds_toArray, List.set_cons_zero, List.set_cons_succ]
  have hHeld := HKS.out _ hbW
  refine wpAnyT_take (i := 1) (v := ?_) rfl (by kernel_rfl) (by kernel_rfl) (by kernel_rfl) (by kernel_rfl) (fun _ _ _ h => h) (Or.inl ⟨by rfl, ?_⟩) (by assumption) ?_
  rotate_left
  · (intro w hSw; (try dsimp only at hSw); first | (go_simp; done) | (go_simp; with_reducible rfl))
  try simp only [Act.put, List.getElem_toArray, List.getElem_cons_zero, List.getElem_cons_succ, List.setIfInBounds_toArray, List.set_cons_zero, List.set_cons_succ]
  refine wpAnyT_take (i := 2) (v := ?_) rfl (by kernel_rfl) (by kernel_rfl) (by kernel_rfl) (by kernel_rfl) (fun _ _ _ h => h) (Or.inl ⟨by rfl, ?_⟩) (by assumption) ?_
  rotate_left
  · (intro w hSw; (try dsimp only at hSw); first | (go_simp; done) | (go_simp; with_reducible rfl))
  try simp only [Act.put, List.getElem_toArray, List.getElem_cons_zero, List.getElem_cons_succ, List.setIfInBounds_toArray, List.set_cons_zero, List.set_cons_succ]
  refine wpAnyT_take (i := 3) (v := ?_) rfl (by kernel_rfl) (by kernel_rfl) (by kernel_rfl) (by kernel_rfl) (fun _ _ _ h => h) (Or.inl ⟨by rfl, ?_⟩) (by assumption) ?_
  rotate_left
  · (intro w hSw; (try dsimp only at hSw); first | (go_simp; done) | (go_simp; with_reducible rfl))
  try simp only [Act.put, List.getElem_toArray, List.getElem_cons_zero, List.getElem_cons_succ, List.setIfInBounds_toArray, List.set_cons_zero, List.set_cons_succ]
  refine wpAnyT_take (i := 4) (v := ?_) rfl (by kernel_rfl) (by kernel_rfl) (by kernel_rfl) (by kernel_rfl) (fun _ _ _ h => h) (Or.inl ⟨by rfl, ?_⟩) (by assumption) ?_
  rotate_left
  · (intro w hSw; (try dsimp only at hSw); first | (go_simp; done) | (go_simp; with_reducible rfl))
  try simp only [Act.put, List.getElem_toArray, List.getElem_cons_zero, List.getElem_cons_succ, List.setIfInBounds_toArray, List.set_cons_zero, List.set_cons_succ]
  refine wpAnyT_take (i := 5) (v := ?_) rfl (by kernel_rfl) (by kernel_rfl) (by kernel_rfl) (by kernel_rfl) (fun _ _ _ h => h) (Or.inl ⟨by rfl, ?_⟩) (by assumption) ?_
  rotate_left
  · (intro w hSw; (try dsimp only at hSw); first | (go_simp; done) | (go_simp; with_reducible rfl))
  try simp only [Act.put, List.getElem_toArray, List.getElem_cons_zero, List.getElem_cons_succ, List.setIfInBounds_toArray, List.set_cons_zero, List.set_cons_succ]
  refine wpAnyT_take (i := 6) (v := ?_) rfl (by kernel_rfl) (by kernel_rfl) (by kernel_rfl) (by kernel_rfl) (fun _ _ _ h => h) (Or.inl ⟨by rfl, ?_⟩) (by assumption) ?_
  rotate_left
  · (intro w hSw; (try dsimp only at hSw); first | (go_simp; done) | (go_simp; with_reducible rfl))
  try simp only [Act.put, List.getElem_toArray, List.getElem_cons_zero, List.getElem_cons_succ, List.setIfInBounds_toArray, List.set_cons_zero, List.set_cons_succ]
  refine wpAnyT_take (i := 7) (v := ?_) rfl (by kernel_rfl) (by kernel_rfl) (by kernel_rfl) (by kernel_rfl) (fun _ _ _ h => h) (Or.inl ⟨by rfl, ?_⟩) (by assumption) ?_
  rotate_left
  · (intro w hSw; (try dsimp only at hSw); first | (go_simp; done) | (go_simp; with_reducible rfl))
  try simp only [Act.put, List.getElem_toArray, List.getElem_cons_zero, List.getElem_cons_succ, List.setIfInBounds_toArray, List.set_cons_zero, List.set_cons_succ]
  refine wpAnyT_take (i := 8) (v := ?_) rfl (by kernel_rfl) (by kernel_rfl) (by kernel_rfl) (by kernel_rfl) (fun _ _ _ h => h) (Or.inl ⟨by rfl, ?_⟩) (by assumption) ?_
  rotate_left
  · (intro w hSw; (try dsimp only at hSw); first | (go_simp; done) | (go_simp; with_reducible rfl))
  try simp only [Act.put, List.getElem_toArray, List.getElem_cons_zero, List.getElem_cons_succ, List.setIfInBounds_toArray, List.set_cons_zero, List.set_cons_succ]
  refine wpAnyT_take (i := 9) (v := ?_) rfl (by kernel_rfl) (by kernel_rfl) (by kernel_rfl) (by kernel_rfl) (fun _ _ _ h => h) (Or.inl ⟨by rfl, ?_⟩) (by assumption) ?_
  rotate_left
  · (intro w hSw; (try dsimp only at hSw); first | (go_simp; done) | (go_simp; with_reducible rfl))
  try simp only [Act.put, List.getElem_toArray, List.getElem_cons_zero, List.getElem_cons_succ, List.setIfInBounds_toArray, List.set_cons_zero, List.set_cons_succ]
  refine wpAnyT_take (i := 10) (v := ?_) rfl (by kernel_rfl) (by kernel_rfl) (by kernel_rfl) (by kernel_rfl) (fun _ _ _ h => h) (Or.inl ⟨by rfl, ?_⟩) (by assumption) ?_
  rotate_left
  · (intro w hSw; (try dsimp only at hSw); first | (go_simp; done) | (go_simp; with_reducible rfl))
  try simp only [Act.put, List.getElem_toArray, List.getElem_cons_zero, List.getElem_cons_succ, List.setIfInBounds_toArray, List.set_cons_zero, List.set_cons_succ]
  refine wpAnyT_take (i := 11) (v := ?_) rfl (by kernel_rfl) (by kernel_rfl) (by kernel_rfl) (by kernel_rfl) (fun _ _ _ h => h) (Or.inl ⟨by rfl, ?_⟩) (by assumption) ?_
  rotate_left
  · (intro w hSw; (try dsimp only at hSw); first | (go_simp; done) | (go_simp; with_reducible rfl))
  try simp only [Act.put, List.getElem_toArray, List.getElem_cons_zero, List.getElem_cons_succ, List.setIfInBounds_toArray, List.set_cons_zero, List.set_cons_succ]
  refine wpAnyT_take (i := 12) (v := ?_) rfl (by kernel_rfl) (by kernel_rfl) (by kernel_rfl) (by kernel_rfl) (fun _ _ _ h => h) (Or.inl ⟨by rfl, ?_⟩) (by assumption) ?_
  rotate_left
  · (intro w hSw; (try dsimp only at hSw); first | (go_simp; done) | (go_simp; with_reducible rfl))
  try simp only [Act.put, List.getElem_toArray, List.getElem_cons_zero, List.getElem_cons_succ, List.setIfInBounds_toArray, List.set_cons_zero, List.set_cons_succ]
  refine wpAnyT_take (i := 13) (v := ?_) rfl (by kernel_rfl) (by kernel_rfl) (by kernel_rfl) (by kernel_rfl) (fun _ _ _ h => h) (Or.inl ⟨by rfl, ?_⟩) (by assumption) ?_
  rotate_left
  · (intro w hSw; (try dsimp only at hSw); first | (go_simp; done) | (go_simp; with_reducible rfl))
  try simp only [Act.put, List.getElem_toArray, List.getElem_cons_zero, List.getElem_cons_succ, List.setIfInBounds_toArray, List.set_cons_zero, List.set_cons_succ]
  refine wpAnyT_take (i := 14) (v := ?_) rfl (by kernel_rfl) (by kernel_rfl) (by kernel_rfl) (by kernel_rfl) (fun _ _ _ h => h) (Or.inl ⟨by rfl, ?_⟩) (by assumption) ?_
  rotate_left
  · (intro w hSw; (try dsimp only at hSw); first | (go_simp; done) | (go_simp; with_reducible rfl))
  try simp only [Act.put, List.getElem_toArray, List.getElem_cons_zero, List.getElem_cons_succ, List.setIfInBounds_toArray, List.set_cons_zero, List.set_cons_succ]
  refine wpAnyT_take (i := 15) (v := ?_) rfl (by kernel_rfl) (by kernel_rfl) (by kernel_rfl) (by kernel_rfl) (fun _ _ _ h => h) (Or.inl ⟨by rfl, ?_⟩) (by assumption) ?_
  rotate_left
  · (intro w hSw; (try dsimp only at hSw); first | (go_simp; done) | (go_simp; with_reducible rfl))
  try simp only [Act.put, List.getElem_toArray, List.getElem_cons_zero, List.getElem_cons_succ, List.setIfInBounds_toArray, List.set_cons_zero, List.set_cons_succ]
  refine wpAnyT_take (i := 16) (v := ?_) rfl (by kernel_rfl) (by kernel_rfl) (by kernel_rfl) (by kernel_rfl) (fun _ _ _ h => h) (Or.inl ⟨by rfl, ?_⟩) (by assumption) ?_
  rotate_left
  · (intro w hSw; (try dsimp only at hSw); first | (go_simp; done) | (go_simp; with_reducible rfl))
  try simp only [Act.put, List.getElem_toArray, List.getElem_cons_zero, List.getElem_cons_succ, List.setIfInBounds_toArray, List.set_cons_zero, List.set_cons_succ]
  refine wpAnyT_take (i := 17) (v := ?_) rfl (by kernel_rfl) (by kernel_rfl) (by kernel_rfl) (by kernel_rfl) (fun _ _ _ h => h) (Or.inl ⟨by rfl, ?_⟩) (by assumption) ?_
  rotate_left
  · (intro w hSw; (try dsimp only at hSw); first | (go_simp; done) | (go_simp; with_reducible rfl))
  try simp only [Act.put, List.getElem_toArray, List.getElem_cons_zero, List.getElem_cons_succ, List.setIfInBounds_toArray, List.set_cons_zero, List.set_cons_succ]
  refine wpAnyT_take (i := 18) (v := ?_) rfl (by kernel_rfl) (by kernel_rfl) (by kernel_rfl) (by kernel_rfl) (fun _ _ _ h => h) (Or.inl ⟨by rfl, ?_⟩) (by assumption) ?_
  rotate_left
  · (intro w hSw; (try dsimp only at hSw); first | (go_simp; done) | (go_simp; with_reducible rfl))
  try simp only [Act.put, List.getElem_toArray, List.getElem_cons_zero, List.getElem_cons_succ, List.setIfInBounds_toArray, List.set_cons_zero, List.set_cons_succ]
  refine wpAnyT_take (i := 19) (v := ?_) rfl (by kernel_rfl) (by kernel_rfl) (by kernel_rfl) (by kernel_rfl) (fun _ _ _ h => h) (Or.inl ⟨by rfl, ?_⟩) (by assumption) ?_
  rotate_left
  · (intro w hSw; (try dsimp only at hSw); first | (go_simp; done) | (go_simp; with_reducible rfl))
  try simp only [Act.put, List.getElem_toArray, List.getElem_cons_zero, List.getElem_cons_succ, List.setIfInBounds_toArray, List.set_cons_zero, List.set_cons_succ]
  refine wpAnyT_take (i := 20) (v := ?_) rfl (by kernel_rfl) (by kernel_rfl) (by kernel_rfl) (by kernel_rfl) (fun _ _ _ h => h) (Or.inl ⟨by rfl, ?_⟩) (by assumption) ?_
  rotate_left
  · (intro w hSw; (try dsimp only at hSw); first | (go_simp; done) | (go_simp; with_reducible rfl))
  try simp only [Act.put, List.getElem_toArray, List.getElem_cons_zero, List.getElem_cons_succ, List.setIfInBounds_toArray, List.set_cons_zero, List.set_cons_succ]
  refine wpAnyT_take (i := 21) (v := ?_) rfl (by kernel_rfl) (by kernel_rfl) (by kernel_rfl) (by kernel_rfl) (fun _ _ _ h => h) (Or.inl ⟨by rfl, ?_⟩) (by assumption) ?_
  rotate_left
  · (intro w hSw; (try dsimp only at hSw); first | (go_simp; done) | (go_simp; with_reducible rfl))
  try simp only [Act.put, List.getElem_toArray, List.getElem_cons_zero, List.getElem_cons_succ, List.setIfInBounds_toArray, List.set_cons_zero, List.set_cons_succ]
  refine wpAnyT_take (i := 22) (v := ?_) rfl (by kernel_rfl) (by kernel_rfl) (by kernel_rfl) (by kernel_rfl) (fun _ _ _ h => h) (Or.inl ⟨by rfl, ?_⟩) (by assumption) ?_
  rotate_left
  · (intro w hSw; (try dsimp only at hSw); first | (go_simp; done) | (go_simp; with_reducible rfl))
  try simp only [Act.put, List.getElem_toArray, List.getElem_cons_zero, List.getElem_cons_succ, List.setIfInBounds_toArray, List.set_cons_zero, List.set_cons_succ]
  refine wpAnyT_take (i := 23) (v := ?_) rfl (by kernel_rfl) (by kernel_rfl) (by kernel_rfl) (by kernel_rfl) (fun _ _ _ h => h) (Or.inl ⟨by rfl, ?_⟩) (by assumption) ?_
  rotate_left
  · (intro w hSw; (try dsimp only at hSw); first | (go_simp; done) | (go_simp; with_reducible rfl))
  try simp only [Act.put, List.getElem_toArray, List.getElem_cons_zero, List.getElem_cons_succ, List.setIfInBounds_toArray, List.set_cons_zero, List.set_cons_succ]
  refine wpAnyT_take (i := 24) (v := ?_) rfl (by kernel_rfl) (by kernel_rfl) (by kernel_rfl) (by kernel_rfl) (fun _ _ _ h => h) (Or.inl ⟨by rfl, ?_⟩) (by assumption) ?_
  rotate_left
  · (intro w hSw; (try dsimp only at hSw); first | (go_simp; done) | (go_simp; with_reducible rfl))
  try simp only [Act.put, List.getElem_toArray, List.getElem_cons_zero, List.getElem_cons_succ, List.setIfInBounds_toArray, List.set_cons_zero, List.set_cons_succ]
  clear hHeld
  refine wpAnyT_step (i := 25) (by kernel_rfl) rfl (fun K hK => ?_)
  (go_simp; refine (told_any 2 2 3 3 1 3 V1).mono ?_; rintro e V2 ⟨v1, rfl, hv1, hb1⟩; have hbX := hbW.trans (hb1.mono hbW.size); clear hb1 hbW)
  refine hK.out _ _ (HKS.out _ hbX) ?_
  clear hK K
  try simp only [Act.put, List.getElem_toArray, List.getElem_cons_zero, List.getElem_cons_succ, List.setIfInBounds_toArray, List.set_cons_zero, List.set_cons_succ]
  have hS2 := HKS.out _ hbX
  refine wpAnyT_step (i := 26) (by kernel_rfl) rfl (fun K hK => ?_)
  (go_simp; refine (tabSame_any (t := tab1) (u := toldT 2 2 3 3 1 3) (r := true) (by decide) _ v1 V2 (Hv1.out.fresh hbX) hv1).mono ?_; rintro e V3 ⟨rfl, hb2⟩; have hbY := hbX.trans (hb2.mono hbX.size); clear hb2 hv1 hbX hS2)
  refine hK.out _ _ (HKS.out _ hbY) ?_
  clear hK K
  try simp only [Act.put, List.getElem_toArray, List.getElem_cons_zero, List.getElem_cons_succ, List.setIfInBounds_toArray, List.set_cons_zero, List.set_cons_succ]
  have hHeld := HKS.out _ hbY
  refine wpAnyT_take (i := 27) (v := ?_) rfl (by kernel_rfl) (by kernel_rfl) (by kernel_rfl) (by kernel_rfl) (fun _ _ _ h => h) (Or.inl ⟨by rfl, ?_⟩) (by assumption) ?_
  rotate_left
  · (intro w hSw; (try dsimp only at hSw); first | (go_simp; done) | (go_simp; with_reducible rfl))
  try simp only [Act.put, List.getElem_toArray, List.getElem_cons_zero, List.getElem_cons_succ, List.setIfInBounds_toArray, List.set_cons_zero, List.set_cons_succ]
  refine wpAnyT_take (i := 28) (v := ?_) rfl (by kernel_rfl) (by kernel_rfl) (by kernel_rfl) (by kernel_rfl) (fun _ _ _ h => h) (Or.inl ⟨by rfl, ?_⟩) (by assumption) ?_
  rotate_left
  · (intro w hSw; (try dsimp only at hSw); first | (go_simp; done) | (go_simp; with_reducible rfl))
  try simp only [Act.put, List.getElem_toArray, List.getElem_cons_zero, List.getElem_cons_succ, List.setIfInBounds_toArray, List.set_cons_zero, List.set_cons_succ]
  refine wpAnyT_take (i := 29) (v := ?_) rfl (by kernel_rfl) (by kernel_rfl) (by kernel_rfl) (by kernel_rfl) (fun _ _ _ h => h) (Or.inl ⟨by rfl, ?_⟩) (by assumption) ?_
  rotate_left
  · (intro w hSw; (try dsimp only at hSw); first | (go_simp; done) | (go_simp; with_reducible rfl))
  try simp only [Act.put, List.getElem_toArray, List.getElem_cons_zero, List.getElem_cons_succ, List.setIfInBounds_toArray, List.set_cons_zero, List.set_cons_succ]
  refine wpAnyT_take (i := 30) (v := ?_) rfl (by kernel_rfl) (by kernel_rfl) (by kernel_rfl) (by kernel_rfl) (fun _ _ _ h => h) (Or.inl ⟨by rfl, ?_⟩) (by assumption) ?_
  rotate_left
  · (intro w hSw; (try dsimp only at hSw); first | (go_simp; done) | (go_simp; with_reducible rfl))
  try simp only [Act.put, List.getElem_toArray, List.getElem_cons_zero, List.getElem_cons_succ, List.setIfInBounds_toArray, List.set_cons_zero, List.set_cons_succ]
  refine wpAnyT_take (i := 31) (v := ?_) rfl (by kernel_rfl) (by kernel_rfl) (by kernel_rfl) (by kernel_rfl) (fun _ _ _ h => h) (Or.inl ⟨by rfl, ?_⟩) (by assumption) ?_
  rotate_left
  · (intro w hSw; (try dsimp only at hSw); first | (go_simp; done) | (go_simp; with_reducible rfl))
  try simp only [Act.put, List.getElem_toArray, List.getElem_cons_zero, List.getElem_cons_succ, List.setIfInBounds_toArray, List.set_cons_zero, List.set_cons_succ]
  clear hHeld
  refine wpAnyT_step (i := 32) (by kernel_rfl) rfl (fun K hK => ?_)
  (go_simp; refine (told_any 1 1 3 2 3 1 V3).mono ?_; rintro e V4 ⟨v1, rfl, hv1, hb1⟩; have hbW := hbY.trans (hb1.mono hbY.size); clear hb1 hbY)
  refine hK.out _ _ (HKS.out _ hbW) ?_
  clear hK K
  try simp only [Act.put, List.getElem_toArray, List.getElem_cons_zero, List.getElem_cons_succ, List.setIfInBounds_toArray, List.set_cons_zero, List.set_cons_succ]
  have hS2 := HKS.out _ hbW
  refine wpAnyT_step (i := 33) (by kernel_rfl) rfl (fun K hK => ?_)
  (go_simp; refine (tabSame_any (t := tab2) (u := toldT 1 1 3 2 3 1) (r := true) (by decide) _ v1 V4 (Hv2.out.fresh hbW) hv1).mono ?_; rintro e V5 ⟨rfl, hb2⟩; have hbY := hbW.trans (hb2.mono hbW.size); clear hb2 hv1 hbW hS2)
  refine hK.out _ _ (HKS.out _ hbY) ?_
  clear hK K
  try simp only [Act.put, List.getElem_toArray, List.getElem_cons_zero, List.getElem_cons_succ, List.setIfInBounds_toArray, List.set_cons_zero, List.set_cons_succ]
  have hHeld := HKS.out _ hbY
  refine wpAnyT_take (i := 34) (v := ?_) rfl (by kernel_rfl) (by kernel_rfl) (by kernel_rfl) (by kernel_rfl) (fun _ _ _ h => h) (Or.inl ⟨by rfl, ?_⟩) (by assumption) ?_
  rotate_left
  · (intro w hSw; (try dsimp only at hSw); first | (go_simp; done) | (go_simp; with_reducible rfl))
  try simp only [Act.put, List.getElem_toArray, List.getElem_cons_zero, List.getElem_cons_succ, List.setIfInBounds_toArray, List.set_cons_zero, List.set_cons_succ]
  have Hend := Lib.hid (Hb.out.trans (hbY.mono Hb.out.size))
  clear hHeld hbY
  refine wpAnyT_seq 35 (by omega) (by rfl) (by kernel_rfl) ?_
  simp only [List.drop_succ_cons, List.drop_zero]
  go_wp2_with fail
  refine NoPanic.normal ?_
  go_wp2_with fail
  go_ret
  exact ⟨rfl, Hend.out⟩
/-! ### the row's step -/
namespace elimKnown
set_option maxRecDepth 100000 in
theorem lifted (os : Os) (started : os.Started) (H : Type) (enc : TypeId × Value → H) :
    ReturnsInHanded {} Try.checked os 8 .any (Rows.elimKnownSpec.pre6 enc Try.prog Try.f8 Rows.elimKnownRow.domain false) (Rows.elimKnownSpec.post enc Try.prog Try.f8 false true false false) := by
  refine returnsInHanded_of_change_sized (C := Try.checked) own started (by kernel_rfl) Try.func8
    (ChangeSpec.witness6 (enc := enc) (C := Try.checked) false ⟨#[], #[], []⟩ 8 (by kernel_rfl) (by kernel_rfl) (by kernel_rfl) (by kernel_rfl)) ?_
  intro W base args ds gs before hval0 hW hcnd hsz0 _
  have hsz : (DataW.weightsEach Try.prog (Try.f8.params.toList ++ Rows.elimKnownSpec.plain.varTypes Try.prog) (ds ++ gs)).all (· ≤ reachBytes) = true := hsz0
  have hval : ∀ (j : Nat) t v, Try.f8.params[j]? = some t → args[j]? = some v → Value.okWide Try.prog W .any base t v := hval0
  have hW' := hW
  obtain ⟨p, q, hA0, hV, rfl, hfz, hnd⟩ := hW
  have hA : DataW.TrodAll enc Try.prog W 0 (fun _ => true) true Try.f8.params.toList args.toList ds p := hA0
  rw [Try.params8] at hA hval hsz
  obtain ⟨hargs, rfl, rfl⟩ := trodAll_nil hA
  obtain rfl : args = #[] := by cases args; simp_all
  obtain ⟨rfl, rfl⟩ := trodVars_none hV
  refine (walk_elimKnown (w := W) ).mono fun e W' ⟨he, bel⟩ => ?_
  subst he
  exact ⟨_, rfl, law_post laidOut (by kernel_rfl) rfl rfl Try.underlying4 hW' rfl rfl rfl bel⟩
theorem over : Rows.elimKnownRow.holds Try.pinned (OpenSpec.ofChange Rows.elimKnownSpec) :=
  OpenClaim.holds_of_wide 8 Try.f8 rfl rfl rfl rfl rfl rfl rfl ⟨rfl, rfl, rfl, rfl, rfl⟩ rfl rfl rfl rfl rfl (by kernel_rfl) Try.func8 (by kernel_rfl)
    (of_decide_eq_true (by kernel_rfl)) (by unfold Func.isWrapper; first | (rw [if_pos (by decide +kernel)]; kernel_rfl) | (rw [if_neg (by decide +kernel)]; exact ⟨rfl, rfl⟩))
    (fun os started H enc _ => lifted os started H enc)
/-- the statement -/
theorem proved : Rows.ElimKnownSaid := over
#print axioms proved
end elimKnown
end Go.Proofs.Ythabkpkgocafoaa
