/- uses.Times. -/
import Derived.Test.YtimlbpjdgnapoaaUsesJ
namespace Go.Proofs.Ytimlbpjdgnapoaa
set_option linter.unusedVariables false
set_option linter.unusedSimpArgs false
open Go.RowKit

theorem fold_snoc (f : List UseD → Int → List UseD) (o : List UseD) (vs : List Int) (v : Int) : (vs ++ [v]).foldl f o = f (vs.foldl f o) v := by rw [List.foldl_append]; rfl
set_option maxHeartbeats 2000000 in
theorem times_no (A0 : Option Addr) (n0 c0 : Nat) (t : TermD) (A : Option Addr) (n cp : Nat) (l : List UseD) (w : World) (ht : RdI .i64 w w.heap.size A0 n0 c0 t.vars) (hr : UsesV w w.heap.size A n cp l) (h1 : mayB t = false) :
    Calls Try.prog 21 #[.agg #[.bool t.never, .int .u8 t.c, .slice A0 n0 c0], .slice A n cp] w (RetUE [] 2 w) := by
  have hbx := below_box (w := w) (Obj.cells #[.bool t.never, .int .u8 t.c, .slice A0 n0 c0] 37)
  have hz := blk_new w #[.bool t.never, .int .u8 t.c, .slice A0 n0 c0] 37
  have ht0 := (ht.below hbx).more hbx.size
  have hr0 := (hr.below hbx).more hbx.size
  have hq := may_any (.agg #[.bool t.never, .int .u8 t.c, .slice A0 n0 c0]) t _ _ ⟨A0, n0, c0, rfl, ht0⟩ (Nat.le_refl _)
  have z0 : (w.alloc (Obj.cells #[.bool t.never, .int .u8 t.c, .slice A0 n0 c0] 37)).cell? ⟨w.heap.size, 0, none⟩ = some (.bool t.never) := hz.cell 0
  have z1 : (w.alloc (Obj.cells #[.bool t.never, .int .u8 t.c, .slice A0 n0 c0] 37)).cell? ⟨w.heap.size, 1, none⟩ = some (.int .u8 t.c) := hz.cell 1
  have z2 : (w.alloc (Obj.cells #[.bool t.never, .int .u8 t.c, .slice A0 n0 c0] 37)).cell? ⟨w.heap.size, 2, none⟩ = some (.slice A0 n0 c0) := hz.cell 2
  rw [mayE_no h1] at hq
  have Hq := Lib.hid hq
  have Hbx := Lib.hid hbx
  have Hz := Lib.hid hz
  have Ht0 := Lib.hid ht0
  have Hr0 := Lib.hid hr0
  clear hq hbx hz ht0 hr0 ht hr
  go_enter Try.func21, Try.ntmps21
  go_wp2_with fail
  refine Hq.out.mono ?_; rintro e w1 ⟨rfl, hb1⟩
  have hbel := Hbx.out.trans (hb1.mono Hbx.out.size)
  go_wp2_with fail
  exact bodyPost_ret (v := .tuple #[.slice none 0 0, .int .i64 2]) (by simp [results, Try.results21, go_sem]) rfl ⟨none, 0, 0, rfl, UsesV.nil, hbel⟩
set_option maxHeartbeats 2000000 in
theorem times_bad (A0 : Option Addr) (n0 c0 : Nat) (t : TermD) (A : Option Addr) (n cp : Nat) (l : List UseD) (w : World) (ht : RdI .i64 w w.heap.size A0 n0 c0 t.vars) (hr : UsesV w w.heap.size A n cp l) (h1 : mayB t = true) (h2 : mayU l = false) :
    Calls Try.prog 21 #[.agg #[.bool t.never, .int .u8 t.c, .slice A0 n0 c0], .slice A n cp] w (RetUE [] 2 w) := by
  have hbx := below_box (w := w) (Obj.cells #[.bool t.never, .int .u8 t.c, .slice A0 n0 c0] 37)
  have hz := blk_new w #[.bool t.never, .int .u8 t.c, .slice A0 n0 c0] 37
  have ht0 := (ht.below hbx).more hbx.size
  have hr0 := (hr.below hbx).more hbx.size
  have hq := may_any (.agg #[.bool t.never, .int .u8 t.c, .slice A0 n0 c0]) t _ _ ⟨A0, n0, c0, rfl, ht0⟩ (Nat.le_refl _)
  have z0 : (w.alloc (Obj.cells #[.bool t.never, .int .u8 t.c, .slice A0 n0 c0] 37)).cell? ⟨w.heap.size, 0, none⟩ = some (.bool t.never) := hz.cell 0
  have z1 : (w.alloc (Obj.cells #[.bool t.never, .int .u8 t.c, .slice A0 n0 c0] 37)).cell? ⟨w.heap.size, 1, none⟩ = some (.int .u8 t.c) := hz.cell 1
  have z2 : (w.alloc (Obj.cells #[.bool t.never, .int .u8 t.c, .slice A0 n0 c0] 37)).cell? ⟨w.heap.size, 2, none⟩ = some (.slice A0 n0 c0) := hz.cell 2
  rw [mayE_yes h1] at hq
  have Hq := Lib.hid hq
  have Hbx := Lib.hid hbx
  have Hz := Lib.hid hz
  have Ht0 := Lib.hid ht0
  have Hr0 := Lib.hid hr0
  clear hq hbx hz ht0 hr0 ht hr
  go_enter Try.func21, Try.ntmps21
  go_wp2_with fail
  refine Hq.out.mono ?_; rintro e w1 ⟨rfl, hb1⟩
  have hlm := least_may h1
  have hln : (leastT t).vars.length ≤ 1048576 := by
    have h2 := may_vars_len h1
    unfold leastT
    split
    · simp
    · exact h2
  have hz1 := Hz.out.below hb1 Hz.out.lt
  have hbel := Hbx.out.trans (hb1.mono Hbx.out.size)
  have hq := least_any_t (.agg #[.bool t.never, .int .u8 t.c, .slice A0 n0 c0]) t w1 _ ⟨A0, n0, c0, rfl, (Ht0.out.below hb1).more hb1.size⟩ (Nat.le_refl _) (by have := may_vars_len h1; omega)
  have y0 : w1.cell? ⟨w.heap.size, 0, none⟩ = some (.bool t.never) := hz1.cell 0
  have y1 : w1.cell? ⟨w.heap.size, 1, none⟩ = some (.int .u8 t.c) := hz1.cell 1
  have y2 : w1.cell? ⟨w.heap.size, 2, none⟩ = some (.slice A0 n0 c0) := hz1.cell 2
  have Hlm := Lib.hid hlm
  have Hln := Lib.hid hln
  have Hq1 := Lib.hid hq
  have Hbel := Lib.hid hbel
  have Hr1 := Lib.hid ((Hr0.out.below hb1).more hb1.size)
  clear hlm hln hz1 hbel hq hb1 Hq Hz Ht0 Hr0 Hbx
  go_wp2_with fail
  refine Hq1.out.mono ?_; rintro e w2 ⟨A2, n2, c2, rfl, hr2, hb2⟩
  obtain ⟨L, hL⟩ : ∃ L, leastT t = L := ⟨_, rfl⟩
  rw [hL] at Hlm Hln hr2 ⊢
  have HL := Lib.hid hL
  clear hL Hq1 y0 y1 y2
  have hbel2 := Hbel.out.trans (hb2.mono Hbel.out.size)
  have hr2u := (Hr1.out.below hb2).more hb2.size
  have hbx2 := below_box (w := w2) (Obj.cells #[.bool L.never, .int .u8 L.c, .slice A2 n2 c2] 37)
  have hL2 := blk_new w2 #[.bool L.never, .int .u8 L.c, .slice A2 n2 c2] 37
  have hr3 := (hr2.below hbx2).more hbx2.size
  have hu3 := (hr2u.below hbx2).more hbx2.size
  have hbel3 := hbel2.trans (hbx2.mono hbel2.size)
  have x1 : (w2.alloc (Obj.cells #[.bool L.never, .int .u8 L.c, .slice A2 n2 c2] 37)).cell? ⟨w2.heap.size, 1, none⟩ = some (.int .u8 L.c) := hL2.cell 1
  have hl2 := hr2.len
  have n63 : n2 ≤ 9223372036854775807 := Nat.le_trans hr2.2.1 hr2.2.2
  have hi := isB_c Hlm.out.1.1 Hlm.out.1.2
  have hs := scaleU_no L.c 0 A n cp l _ hu3 hi h2
  have Hs := Lib.hid hs
  have HL2 := Lib.hid hL2
  have Hr3 := Lib.hid hr3
  have Hbel3 := Lib.hid hbel3
  clear hs hL2 hr3 hbel3 hu3 hbx2 hbel2 hr2u hr2 hb2 hi h1 h2 Hr1 Hbel
  go_wp2_with fail
  refine Hs.out.mono ?_; rintro e w4 ⟨A4, n4, c4, rfl, hu4, hb4⟩
  have hL4 := HL2.out.below hb4 HL2.out.lt
  have hr4 := (Hr3.out.below hb4).more hb4.size
  have hbel4 := Hbel3.out.trans (hb4.mono Hbel3.out.size)
  have v2 : w4.cell? ⟨w2.heap.size, 2, none⟩ = some (.slice A2 n2 c2) := hL4.cell 2
  have Hu4 := Lib.hid hu4
  have Hr4 := Lib.hid hr4
  have Hbel4 := Lib.hid hbel4
  clear hL4 hr4 hbel4 hu4 hb4 Hs HL2 Hr3 Hbel3
  go_wp2_with fail
  go_loopg [7, 8, 27] n2 (fun gh o er i wr => ∃ k : Nat, k ≤ n2 ∧ gh = n2 - k ∧ i = .int .i64 k ∧ o = .slice A4 n4 c4 ∧ er = .int .i64 2 ∧ w4 = wr)
  case atStart => exact ⟨0, Nat.zero_le _, rfl, rfl, rfl, rfl, rfl⟩
  case round =>
    obtain ⟨k, hk, rfl, rfl, rfl, rfl, rfl⟩ := hrel
    by_cases hkn : k < n2
    · obtain ⟨b, o, q, hb, hc⟩ := Hr4.out.at_ (by omega)
      subst q
      have v0 := hc k (by omega)
      have k1 : (0 : Int) ≤ (k : Int) := by omega
      have k2 : (k : Int) < n2 := by omega
      clear hc
      go_wp2_with fail
      go_roundg (n2 - (k + 1))
      case measure => omega
      case rel => exact ⟨k + 1, by omega, rfl, by go_num, rfl, rfl, rfl⟩
    · go_wp2_with fail
      exact bodyPost_ret (v := .tuple #[.slice A4 n4 c4, .int .i64 2]) (by simp [results, Try.results21, go_sem]) rfl ⟨A4, n4, c4, rfl, Hu4.out, Hbel4.out⟩
set_option maxHeartbeats 2000000 in
theorem times_yes (A0 : Option Addr) (n0 c0 : Nat) (t : TermD) (A : Option Addr) (n cp : Nat) (l : List UseD) (w : World) (ht : RdI .i64 w w.heap.size A0 n0 c0 t.vars) (hr : UsesV w w.heap.size A n cp l) (h1 : mayB t = true) (h2 : mayU l = true) :
    Calls Try.prog 21 #[.agg #[.bool t.never, .int .u8 t.c, .slice A0 n0 c0], .slice A n cp] w (RetUE (timesU t l) 0 w) := by
  have hbx := below_box (w := w) (Obj.cells #[.bool t.never, .int .u8 t.c, .slice A0 n0 c0] 37)
  have hz := blk_new w #[.bool t.never, .int .u8 t.c, .slice A0 n0 c0] 37
  have ht0 := (ht.below hbx).more hbx.size
  have hr0 := (hr.below hbx).more hbx.size
  have hq := may_any (.agg #[.bool t.never, .int .u8 t.c, .slice A0 n0 c0]) t _ _ ⟨A0, n0, c0, rfl, ht0⟩ (Nat.le_refl _)
  have z0 : (w.alloc (Obj.cells #[.bool t.never, .int .u8 t.c, .slice A0 n0 c0] 37)).cell? ⟨w.heap.size, 0, none⟩ = some (.bool t.never) := hz.cell 0
  have z1 : (w.alloc (Obj.cells #[.bool t.never, .int .u8 t.c, .slice A0 n0 c0] 37)).cell? ⟨w.heap.size, 1, none⟩ = some (.int .u8 t.c) := hz.cell 1
  have z2 : (w.alloc (Obj.cells #[.bool t.never, .int .u8 t.c, .slice A0 n0 c0] 37)).cell? ⟨w.heap.size, 2, none⟩ = some (.slice A0 n0 c0) := hz.cell 2
  rw [mayE_yes h1] at hq
  have HT : Hid (timesU t l = (leastT t).vars.foldl (fun o v => scaleU 0 v o) (scaleU (leastT t).c 0 l)) := Lib.hid rfl
  have Hgood := Lib.hid (good_of h2)
  have Hq := Lib.hid hq
  have Hbx := Lib.hid hbx
  have Hz := Lib.hid hz
  have Ht0 := Lib.hid ht0
  have Hr0 := Lib.hid hr0
  clear hq hbx hz ht0 hr0 ht hr
  go_enter Try.func21, Try.ntmps21
  go_wp2_with fail
  refine Hq.out.mono ?_; rintro e w1 ⟨rfl, hb1⟩
  have hlm := least_may h1
  have hln : (leastT t).vars.length ≤ 1048576 := by
    have h2 := may_vars_len h1
    unfold leastT
    split
    · simp
    · exact h2
  have hz1 := Hz.out.below hb1 Hz.out.lt
  have hbel := Hbx.out.trans (hb1.mono Hbx.out.size)
  have hq := least_any_t (.agg #[.bool t.never, .int .u8 t.c, .slice A0 n0 c0]) t w1 _ ⟨A0, n0, c0, rfl, (Ht0.out.below hb1).more hb1.size⟩ (Nat.le_refl _) (by have := may_vars_len h1; omega)
  have y0 : w1.cell? ⟨w.heap.size, 0, none⟩ = some (.bool t.never) := hz1.cell 0
  have y1 : w1.cell? ⟨w.heap.size, 1, none⟩ = some (.int .u8 t.c) := hz1.cell 1
  have y2 : w1.cell? ⟨w.heap.size, 2, none⟩ = some (.slice A0 n0 c0) := hz1.cell 2
  have Hlm := Lib.hid hlm
  have Hln := Lib.hid hln
  have Hq1 := Lib.hid hq
  have Hbel := Lib.hid hbel
  have Hr1 := Lib.hid ((Hr0.out.below hb1).more hb1.size)
  clear hlm hln hz1 hbel hq hb1 Hq Hz Ht0 Hr0 Hbx
  go_wp2_with fail
  refine Hq1.out.mono ?_; rintro e w2 ⟨A2, n2, c2, rfl, hr2, hb2⟩
  obtain ⟨L, hL⟩ : ∃ L, leastT t = L := ⟨_, rfl⟩
  rw [hL] at Hlm Hln hr2 HT ⊢
  have HL := Lib.hid hL
  clear hL Hq1 y0 y1 y2
  have hbel2 := Hbel.out.trans (hb2.mono Hbel.out.size)
  have hr2u := (Hr1.out.below hb2).more hb2.size
  have hbx2 := below_box (w := w2) (Obj.cells #[.bool L.never, .int .u8 L.c, .slice A2 n2 c2] 37)
  have hL2 := blk_new w2 #[.bool L.never, .int .u8 L.c, .slice A2 n2 c2] 37
  have hr3 := (hr2.below hbx2).more hbx2.size
  have hu3 := (hr2u.below hbx2).more hbx2.size
  have hbel3 := hbel2.trans (hbx2.mono hbel2.size)
  have x1 : (w2.alloc (Obj.cells #[.bool L.never, .int .u8 L.c, .slice A2 n2 c2] 37)).cell? ⟨w2.heap.size, 1, none⟩ = some (.int .u8 L.c) := hL2.cell 1
  have hl2 := hr2.len
  have n63 : n2 ≤ 9223372036854775807 := Nat.le_trans hr2.2.1 hr2.2.2
  have hi := isB_c Hlm.out.1.1 Hlm.out.1.2
  have hs := scaleU_yes L.c 0 A n cp l _ hu3 hi h2
  have hg0 := scaleU_good Hgood.out hi
  obtain ⟨l0, hl0⟩ : ∃ l0, scaleU L.c 0 l = l0 := ⟨_, rfl⟩
  rw [hl0] at hs hg0 HT
  have Hs := Lib.hid hs
  have Hg0 := Lib.hid hg0
  have HL2 := Lib.hid hL2
  have Hr3 := Lib.hid hr3
  have Hbel3 := Lib.hid hbel3
  clear hs hg0 hl0 hL2 hr3 hbel3 hu3 hbx2 hbel2 hr2u hr2 hb2 hi h1 h2 Hr1 Hbel Hgood
  go_wp2_with fail
  refine Hs.out.mono ?_; rintro e w4 ⟨A4, n4, c4, rfl, hu4, hb4⟩
  have hL4 := HL2.out.below hb4 HL2.out.lt
  have hr4 := (Hr3.out.below hb4).more hb4.size
  have hbel4 := Hbel3.out.trans (hb4.mono Hbel3.out.size)
  have v2 : w4.cell? ⟨w2.heap.size, 2, none⟩ = some (.slice A2 n2 c2) := hL4.cell 2
  have Hu4 := Lib.hid hu4
  have Hr4 := Lib.hid hr4
  have Hbel4 := Lib.hid hbel4
  clear hL4 hr4 hbel4 hu4 hb4 Hs HL2 Hr3 Hbel3
  go_wp2_with fail
  go_loopg [7, 8, 27] n2 (fun gh o er i wr => ∃ (k : Nat) (A5 : Option Addr) (n5 c5 : Nat), k ≤ n2 ∧ gh = n2 - k ∧ i = .int .i64 k ∧ o = .slice A5 n5 c5 ∧ er = .int .i64 0 ∧ Hid (UsesV wr wr.heap.size A5 n5 c5 ((L.vars.take k).foldl (fun o v => scaleU 0 v o) l0)) ∧ Below w4.heap.size w4 wr)
  case atStart => exact ⟨0, A4, n4, c4, Nat.zero_le _, rfl, rfl, rfl, rfl, Hu4, Below.refl _ _⟩
  case round =>
    obtain ⟨k, A5, n5, c5, hk, rfl, rfl, rfl, rfl, Hu5, hb5⟩ := hrel
    by_cases hkn : k < n2
    · obtain ⟨b, o, q, hb, hc⟩ := (Hr4.out.below hb5).at_ (by omega)
      subst q
      have hk' : k < L.vars.length := by omega
      have v0 := hc k hk'
      have hvr := Hlm.out.2 _ (List.getElem_mem hk')
      have hg5 : Good ((L.vars.take k).foldl (fun o v => scaleU 0 v o) l0) := fold_good _ _ Hg0.out fun v hv => Hlm.out.2 v (List.mem_of_mem_take hv)
      have hs := scaleU_yes 0 L.vars[k] A5 n5 c5 _ wr Hu5.out (isB_v hvr.1 hvr.2) hg5.mayU
      have hst : (L.vars.take (k + 1)).foldl (fun o v => scaleU 0 v o) l0 = scaleU 0 L.vars[k] ((L.vars.take k).foldl (fun o v => scaleU 0 v o) l0) := by
        rw [List.take_succ_eq_append_getElem hk', fold_snoc]
      have Hs := Lib.hid hs
      have Hst := Lib.hid hst
      have Hb5 := Lib.hid hb5
      have k1 : (0 : Int) ≤ (k : Int) := by omega
      have k2 : (k : Int) < n2 := by omega
      clear hc hs hst hb5 hg5 hvr Hu5
      go_wp2_with fail
      refine Hs.out.mono ?_; rintro e w6 ⟨A6, n6, c6, rfl, hu6, hb6⟩
      have Hu6 := Lib.hid hu6
      have hbel6 := Hb5.out.trans (hb6.mono Hb5.out.size)
      rw [← Hst.out] at Hu6
      clear hu6 hb6 Hs
      go_wp2_with fail
      go_roundg (n2 - (k + 1))
      case measure => omega
      case rel => exact ⟨k + 1, A6, n6, c6, by omega, rfl, by go_num, rfl, rfl, Hu6, hbel6⟩
    · have hkn' : k = n2 := by omega
      subst hkn'
      have hu5 := Hu5.out
      rw [List.take_of_length_le (show L.vars.length ≤ k by omega)] at hu5
      have Hu : Hid (UsesV wr wr.heap.size A5 n5 c5 (timesU t l)) := Lib.hid (by rw [HT.out]; exact hu5)
      have hbel6 := Hbel4.out.trans (hb5.mono Hbel4.out.size)
      clear hu5 Hu5 hb5
      go_wp2_with fail
      exact bodyPost_ret (v := .tuple #[.slice A5 n5 c5, .int .i64 0]) (by simp [results, Try.results21, go_sem]) rfl ⟨A5, n5, c5, rfl, Hu.out, hbel6⟩

end Go.Proofs.Ytimlbpjdgnapoaa
