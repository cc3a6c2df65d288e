/- LeastKnown holds: the document's examples of least solutions and of cores, and the limits. No conditions. -/
import Derived.Test.YthabkpkgocafoaaLawK
import Derived.Test.YthabkpkgocafoaaMake
import Derived.Test.YthabkpkgocafoaaRowQ
namespace Go.Proofs.Ythabkpkgocafoaa
set_option linter.unusedVariables false
set_option linter.unusedSimpArgs false
open Go.ChangeShapes Go.WideShapes Go.ChangeAt Go.RowKit

theorem make_ineqs (N : Nat) (hN : N ≤ 2097152) (w : World) : ∃ w2, (Instr.makeSlice 35 (.int .i64 N) (.int .i64 N)).run Try.prog w = .ok (.slice (some ⟨w.heap.size, 0, none⟩) N N) w2 ∧ IneqsV w2 w2.heap.size (some ⟨w.heap.size, 0, none⟩) N N (List.replicate N ⟨0, 0, 0, 0⟩) ∧ Below w.heap.size w w2 := by
  obtain ⟨i0, hi0, hi1, hi2, hi3⟩ := info_parts ineqInfo
  have h := run_makeSlice (P := Try.prog) w 35 31 i0 _ Try.underlying35 hi0 hi1 .i64 .i64 N N (by omega) (by omega) (by rw [hi2]; simp; omega) (by rw [hi3]; simp; omega) (by omega)
  rw [Int.toNat_natCast, hi2] at h
  refine ⟨_, h, ⟨by simp, Nat.le_refl _, by unfold maxLen; omega, fun _ => ⟨w.heap.size, 0, rfl, by simp, fun i hi => ?_⟩⟩, below_box _⟩
  have hi' : i < N := by simpa using hi
  have hc : ∀ j, j < 4 → (w.alloc (.cells (madeCells (Value.agg #[.int .i64 0, .int .u8 0, .int .u8 0, .int .i64 0]).cells (N * 4)) 31)).cell? ⟨w.heap.size, 0 + i * 4 + j, none⟩ = #[Value.int .i64 0, .int .u8 0, .int .u8 0, .int .i64 0][j]? := fun j hj => by
    rw [Blk.cell (blk_new w _ _), Nat.zero_add]
    unfold madeCells
    have hlt : i * 4 + j < N * 4 := by omega
    have hm : (i * 4 + j) % 4 = j := by omega
    have hsz : (Value.agg #[.int .i64 0, .int .u8 0, .int .u8 0, .int .i64 0]).cells = #[Value.int .i64 0, .int .u8 0, .int .u8 0, .int .i64 0] := rfl
    rw [hsz]
    simp [hlt, hm]
    match j, hj with
    | 0, _ => rfl
    | 1, _ => rfl
    | 2, _ => rfl
    | 3, _ => rfl
  rw [List.getElem_replicate]
  exact ⟨hc 0 (by omega), hc 1 (by omega), hc 2 (by omega), hc 3 (by omega)⟩

set_option maxRecDepth 100000 in
set_option maxHeartbeats 4000000 in
theorem walk_leastKnown (w : World) : Calls Try.prog 3 #[] w fun e w' => e = .returned (.bool true) ∧ Below w.heap.size w w' := by
  go_enter Try.func3, Try.ntmps3
  have Hbw := Lib.hid (Below.refl w.heap.size w)
  go_wp2_with fail
  refine (k_any 3 w).mono ?_; rintro e w1 ⟨rfl, hb9⟩
  have hbwN := Hbw.out.trans (hb9.mono Hbw.out.size)
  clear Hbw
  have Hbw := Lib.hid hbwN
  clear hbwN
  clear hb9
  go_wp2_with fail
  refine (up_any 0 3 1 0 w1).mono ?_; rintro e w2 ⟨rfl, hb9⟩
  have hbwN := Hbw.out.trans (hb9.mono Hbw.out.size)
  clear Hbw
  have Hbw := Lib.hid hbwN
  clear hbwN
  clear hb9
  go_wp2_with fail
  refine (v_any 0 w2).mono ?_; rintro e w3 ⟨rfl, hb9⟩
  have hbwN := Hbw.out.trans (hb9.mono Hbw.out.size)
  clear Hbw
  have Hbw := Lib.hid hbwN
  clear hbwN
  clear hb9
  go_wp2_with fail
  refine (up_any 0 0 2 1 w3).mono ?_; rintro e w4 ⟨rfl, hb9⟩
  have hbwN := Hbw.out.trans (hb9.mono Hbw.out.size)
  clear Hbw
  have Hbw := Lib.hid hbwN
  clear hbwN
  clear hb9
  go_wp2_with fail
  have hbk : Blk (w4.alloc (Obj.cells #[.int .i64 0, .int .u8 3, .int .u8 1, .int .i64 0, .int .i64 0, .int .u8 0, .int .u8 2, .int .i64 1] 31)) w4.heap.size 31 (cellsQ xsA).toArray := blk_new w4 _ _
  have hb9 := below_box (w := w4) (Obj.cells #[.int .i64 0, .int .u8 3, .int .u8 1, .int .i64 0, .int .i64 0, .int .u8 0, .int .u8 2, .int .i64 1] 31)
  generalize w4.alloc (Obj.cells #[.int .i64 0, .int .u8 3, .int .u8 1, .int .i64 0, .int .i64 0, .int .u8 0, .int .u8 2, .int .i64 1] 31) = w5 at hbk hb9 ⊢
  have hbwN := Hbw.out.trans (hb9.mono Hbw.out.size)
  clear Hbw
  have Hbw := Lib.hid hbwN
  clear hbwN
  have hx : IneqsV w5 w5.heap.size (some ⟨w4.heap.size, 0, none⟩) 2 2 xsA := IneqsV.laid hbk (by unfold maxLen xsA; simp)
  clear hb9 hbk
  refine (solve_any 2 none 0 0 [] (some ⟨w4.heap.size, 0, none⟩) 2 2 xsA w5 RdI.nil hx).mono ?_
  rintro e w6 ⟨A1, m1, c1, A2, m2, c2, a, core, er, rfl, hra, _, hS, hb9⟩
  obtain ⟨rfl, rfl, _⟩ := hS.least (n := 2) (by omega) (by unfold xsA; simp) xsA_ok xsA_least
  have hbwN := Hbw.out.trans (hb9.mono Hbw.out.size)
  clear Hbw
  have Hbw := Lib.hid hbwN
  clear hbwN
  have Ha := Lib.hid hra
  clear hra hb9 hx hS
  go_wp2_with fail
  refine (k_any 2 w6).mono ?_; rintro e w1 ⟨rfl, hb9⟩
  have hbwN := Hbw.out.trans (hb9.mono Hbw.out.size)
  clear Hbw
  have Hbw := Lib.hid hbwN
  clear hbwN
  have haN := (Ha.out.below hb9).more hb9.size
  clear Ha
  have Ha := Lib.hid haN
  clear haN
  clear hb9
  go_wp2_with fail
  refine (up_any 0 2 1 0 w1).mono ?_; rintro e w2 ⟨rfl, hb9⟩
  have hbwN := Hbw.out.trans (hb9.mono Hbw.out.size)
  clear Hbw
  have Hbw := Lib.hid hbwN
  clear hbwN
  have haN := (Ha.out.below hb9).more hb9.size
  clear Ha
  have Ha := Lib.hid haN
  clear haN
  clear hb9
  go_wp2_with fail
  refine (v_any 0 w2).mono ?_; rintro e w3 ⟨rfl, hb9⟩
  have hbwN := Hbw.out.trans (hb9.mono Hbw.out.size)
  clear Hbw
  have Hbw := Lib.hid hbwN
  clear hbwN
  have haN := (Ha.out.below hb9).more hb9.size
  clear Ha
  have Ha := Lib.hid haN
  clear haN
  clear hb9
  go_wp2_with fail
  refine (up_any 0 0 1 1 w3).mono ?_; rintro e w4 ⟨rfl, hb9⟩
  have hbwN := Hbw.out.trans (hb9.mono Hbw.out.size)
  clear Hbw
  have Hbw := Lib.hid hbwN
  clear hbwN
  have haN := (Ha.out.below hb9).more hb9.size
  clear Ha
  have Ha := Lib.hid haN
  clear haN
  clear hb9
  go_wp2_with fail
  refine (k_any 1 w4).mono ?_; rintro e w5 ⟨rfl, hb9⟩
  have hbwN := Hbw.out.trans (hb9.mono Hbw.out.size)
  clear Hbw
  have Hbw := Lib.hid hbwN
  clear hbwN
  have haN := (Ha.out.below hb9).more hb9.size
  clear Ha
  have Ha := Lib.hid haN
  clear haN
  clear hb9
  go_wp2_with fail
  refine (up_any 0 1 1 2 w5).mono ?_; rintro e w7 ⟨rfl, hb9⟩
  have hbwN := Hbw.out.trans (hb9.mono Hbw.out.size)
  clear Hbw
  have Hbw := Lib.hid hbwN
  clear hbwN
  have haN := (Ha.out.below hb9).more hb9.size
  clear Ha
  have Ha := Lib.hid haN
  clear haN
  clear hb9
  go_wp2_with fail
  refine (v_any 1 w7).mono ?_; rintro e w8 ⟨rfl, hb9⟩
  have hbwN := Hbw.out.trans (hb9.mono Hbw.out.size)
  clear Hbw
  have Hbw := Lib.hid hbwN
  clear hbwN
  have haN := (Ha.out.below hb9).more hb9.size
  clear Ha
  have Ha := Lib.hid haN
  clear haN
  clear hb9
  go_wp2_with fail
  refine (up_any 1 0 1 (-1) w8).mono ?_; rintro e w9 ⟨rfl, hb9⟩
  have hbwN := Hbw.out.trans (hb9.mono Hbw.out.size)
  clear Hbw
  have Hbw := Lib.hid hbwN
  clear hbwN
  have haN := (Ha.out.below hb9).more hb9.size
  clear Ha
  have Ha := Lib.hid haN
  clear haN
  clear hb9
  go_wp2_with fail
  have hbk : Blk (w9.alloc (Obj.cells #[.int .i64 0, .int .u8 2, .int .u8 1, .int .i64 0, .int .i64 0, .int .u8 0, .int .u8 1, .int .i64 1, .int .i64 0, .int .u8 1, .int .u8 1, .int .i64 2, .int .i64 1, .int .u8 0, .int .u8 1, .int .i64 (-1)] 31)) w9.heap.size 31 (cellsQ xsB).toArray := blk_new w9 _ _
  have hb9 := below_box (w := w9) (Obj.cells #[.int .i64 0, .int .u8 2, .int .u8 1, .int .i64 0, .int .i64 0, .int .u8 0, .int .u8 1, .int .i64 1, .int .i64 0, .int .u8 1, .int .u8 1, .int .i64 2, .int .i64 1, .int .u8 0, .int .u8 1, .int .i64 (-1)] 31)
  generalize w9.alloc (Obj.cells #[.int .i64 0, .int .u8 2, .int .u8 1, .int .i64 0, .int .i64 0, .int .u8 0, .int .u8 1, .int .i64 1, .int .i64 0, .int .u8 1, .int .u8 1, .int .i64 2, .int .i64 1, .int .u8 0, .int .u8 1, .int .i64 (-1)] 31) = w10 at hbk hb9 ⊢
  have hbwN := Hbw.out.trans (hb9.mono Hbw.out.size)
  clear Hbw
  have Hbw := Lib.hid hbwN
  clear hbwN
  have haN := (Ha.out.below hb9).more hb9.size
  clear Ha
  have Ha := Lib.hid haN
  clear haN
  have hx : IneqsV w10 w10.heap.size (some ⟨w9.heap.size, 0, none⟩) 4 4 xsB := IneqsV.laid hbk (by unfold maxLen xsB; simp)
  clear hb9 hbk
  refine (solve_any 3 none 0 0 [] (some ⟨w9.heap.size, 0, none⟩) 4 4 xsB w10 RdI.nil hx).mono ?_
  rintro e w11 ⟨A3, m3, c3, A4, m4, c4, a3, core3, er, rfl, _, hrb, hS, hb9⟩
  obtain ⟨rfl, rfl⟩ := xsB_core hS
  have hbwN := Hbw.out.trans (hb9.mono Hbw.out.size)
  clear Hbw
  have Hbw := Lib.hid hbwN
  clear hbwN
  have haN := (Ha.out.below hb9).more hb9.size
  clear Ha
  have Ha := Lib.hid haN
  clear haN
  have Hb := Lib.hid hrb
  clear hrb hb9 hx hS
  go_wp2_with fail
  have hblw := below_box (w := w11) (Obj.cells #[.int .u8 2, .int .u8 1] 27)
  have hrlw : RdI .u8 (w11.alloc (Obj.cells #[.int .u8 2, .int .u8 1] 27)) (w11.alloc (Obj.cells #[.int .u8 2, .int .u8 1] 27)).heap.size (some ⟨w11.heap.size, 0, none⟩) 2 2 [2, 1] := RowC.rd ⟨_, blk_new w11 _ _, by simp, fun i hi => by match i, hi with | 0, _ => rfl | 1, _ => rfl⟩ rfl (Nat.le_refl _) (by unfold maxLen; omega)
  generalize w11.alloc (Obj.cells #[.int .u8 2, .int .u8 1] 27) = w12 at hblw hrlw ⊢
  have hbwN := Hbw.out.trans (hblw.mono Hbw.out.size)
  clear Hbw
  have Hbw := Lib.hid hbwN
  clear hbwN
  have haN := (Ha.out.below hblw).more hblw.size
  clear Ha
  have Ha := Lib.hid haN
  clear haN
  have hbN := (Hb.out.below hblw).more hblw.size
  clear Hb
  have Hb := Lib.hid hbN
  clear hbN
  have Hc := Lib.hid hrlw
  clear hblw hrlw
  refine (v_any 0 w12).mono ?_; rintro e w13 ⟨rfl, hb9⟩
  have hbwN := Hbw.out.trans (hb9.mono Hbw.out.size)
  clear Hbw
  have Hbw := Lib.hid hbwN
  clear hbwN
  have haN := (Ha.out.below hb9).more hb9.size
  clear Ha
  have Ha := Lib.hid haN
  clear haN
  have hbN := (Hb.out.below hb9).more hb9.size
  clear Hb
  have Hb := Lib.hid hbN
  clear hbN
  have hcN := (Hc.out.below hb9).more hb9.size
  clear Hc
  have Hc := Lib.hid hcN
  clear hcN
  clear hb9
  go_wp2_with fail
  refine (up_any 0 0 1 1 w13).mono ?_; rintro e w14 ⟨rfl, hb9⟩
  have hbwN := Hbw.out.trans (hb9.mono Hbw.out.size)
  clear Hbw
  have Hbw := Lib.hid hbwN
  clear hbwN
  have haN := (Ha.out.below hb9).more hb9.size
  clear Ha
  have Ha := Lib.hid haN
  clear haN
  have hbN := (Hb.out.below hb9).more hb9.size
  clear Hb
  have Hb := Lib.hid hbN
  clear hbN
  have hcN := (Hc.out.below hb9).more hb9.size
  clear Hc
  have Hc := Lib.hid hcN
  clear hcN
  clear hb9
  go_wp2_with fail
  refine (v_any 1 w14).mono ?_; rintro e w15 ⟨rfl, hb9⟩
  have hbwN := Hbw.out.trans (hb9.mono Hbw.out.size)
  clear Hbw
  have Hbw := Lib.hid hbwN
  clear hbwN
  have haN := (Ha.out.below hb9).more hb9.size
  clear Ha
  have Ha := Lib.hid haN
  clear haN
  have hbN := (Hb.out.below hb9).more hb9.size
  clear Hb
  have Hb := Lib.hid hbN
  clear hbN
  have hcN := (Hc.out.below hb9).more hb9.size
  clear Hc
  have Hc := Lib.hid hcN
  clear hcN
  clear hb9
  go_wp2_with fail
  refine (up_any 1 0 1 (-1) w15).mono ?_; rintro e w16 ⟨rfl, hb9⟩
  have hbwN := Hbw.out.trans (hb9.mono Hbw.out.size)
  clear Hbw
  have Hbw := Lib.hid hbwN
  clear hbwN
  have haN := (Ha.out.below hb9).more hb9.size
  clear Ha
  have Ha := Lib.hid haN
  clear haN
  have hbN := (Hb.out.below hb9).more hb9.size
  clear Hb
  have Hb := Lib.hid hbN
  clear hbN
  have hcN := (Hc.out.below hb9).more hb9.size
  clear Hc
  have Hc := Lib.hid hcN
  clear hcN
  clear hb9
  go_wp2_with fail
  have hbk : Blk (w16.alloc (Obj.cells #[.int .i64 0, .int .u8 0, .int .u8 1, .int .i64 1, .int .i64 1, .int .u8 0, .int .u8 1, .int .i64 (-1)] 31)) w16.heap.size 31 (cellsQ xsC).toArray := blk_new w16 _ _
  have hb9 := below_box (w := w16) (Obj.cells #[.int .i64 0, .int .u8 0, .int .u8 1, .int .i64 1, .int .i64 1, .int .u8 0, .int .u8 1, .int .i64 (-1)] 31)
  generalize w16.alloc (Obj.cells #[.int .i64 0, .int .u8 0, .int .u8 1, .int .i64 1, .int .i64 1, .int .u8 0, .int .u8 1, .int .i64 (-1)] 31) = w17 at hbk hb9 ⊢
  have hbwN := Hbw.out.trans (hb9.mono Hbw.out.size)
  clear Hbw
  have Hbw := Lib.hid hbwN
  clear hbwN
  have haN := (Ha.out.below hb9).more hb9.size
  clear Ha
  have Ha := Lib.hid haN
  clear haN
  have hbN := (Hb.out.below hb9).more hb9.size
  clear Hb
  have Hb := Lib.hid hbN
  clear hbN
  have hcN := (Hc.out.below hb9).more hb9.size
  clear Hc
  have Hc := Lib.hid hcN
  clear hcN
  have hx : IneqsV w17 w17.heap.size (some ⟨w16.heap.size, 0, none⟩) 2 2 xsC := IneqsV.laid hbk (by unfold maxLen xsC; simp)
  clear hb9 hbk
  refine (solve_any 2 (some ⟨w11.heap.size, 0, none⟩) 2 2 [2, 1] (some ⟨w16.heap.size, 0, none⟩) 2 2 xsC w17 Hc.out hx).mono ?_
  rintro e w18 ⟨A5, m5, c5, A6, m6, c6, a5, core5, er, rfl, _, hrc, hS, hb9⟩
  obtain ⟨rfl, rfl⟩ := xsC_core hS
  have hbwN := Hbw.out.trans (hb9.mono Hbw.out.size)
  clear Hbw
  have Hbw := Lib.hid hbwN
  clear hbwN
  have haN := (Ha.out.below hb9).more hb9.size
  clear Ha
  have Ha := Lib.hid haN
  clear haN
  have hbN := (Hb.out.below hb9).more hb9.size
  clear Hb
  have Hb := Lib.hid hbN
  clear hbN
  clear Hc
  have Hc := Lib.hid hrc
  clear hrc hb9 hx hS
  go_wp2_with fail
  refine (solve_any 1048577 none 0 0 [] none 0 0 [] w18 RdI.nil IneqsV.nil).mono ?_
  rintro e w19 ⟨A7, m7, c7, A8, m8, c8, a7, core7, er, rfl, _, _, hS, hb9⟩
  have he : er = 3 := by
    rcases hS with ⟨_, _, _, h⟩ | ⟨h, _⟩ | ⟨h, _⟩
    · exact h
    · exact absurd h (by decide)
    · exact absurd h (by decide)
  subst he
  have hbwN := Hbw.out.trans (hb9.mono Hbw.out.size)
  clear Hbw
  have Hbw := Lib.hid hbwN
  clear hbwN
  have haN := (Ha.out.below hb9).more hb9.size
  clear Ha
  have Ha := Lib.hid haN
  clear haN
  have hbN := (Hb.out.below hb9).more hb9.size
  clear Hb
  have Hb := Lib.hid hbN
  clear hbN
  have hcN := (Hc.out.below hb9).more hb9.size
  clear Hc
  have Hc := Lib.hid hcN
  clear hcN
  clear hb9 hS
  obtain ⟨w20, hmk, hx20, hb9⟩ := make_ineqs 1048577 (by omega) w19
  have hmk' : (Instr.makeSlice 35 (.int .i64 1048577) (.int .i64 1048577)).run Try.prog w19 = .ok (.slice (some ⟨w19.heap.size, 0, none⟩) 1048577 1048577) w20 := hmk
  clear hmk
  have hbwN := Hbw.out.trans (hb9.mono Hbw.out.size)
  clear Hbw
  have Hbw := Lib.hid hbwN
  clear hbwN
  have haN := (Ha.out.below hb9).more hb9.size
  clear Ha
  have Ha := Lib.hid haN
  clear haN
  have hbN := (Hb.out.below hb9).more hb9.size
  clear Hb
  have Hb := Lib.hid hbN
  clear hbN
  have hcN := (Hc.out.below hb9).more hb9.size
  clear Hc
  have Hc := Lib.hid hcN
  clear hcN
  have Hx20 := Lib.hid hx20
  clear hb9 hx20
  go_wp2_with fail
  clear hmk'
  refine (solve_any 1 none 0 0 [] (some ⟨w19.heap.size, 0, none⟩) 1048577 1048577 _ w20 RdI.nil Hx20.out).mono ?_
  rintro e w21 ⟨A7, m7, c7, A8, m8, c8, a7, core7, er, rfl, _, _, hS, hb9⟩
  have he : er = 3 := by
    rcases hS with ⟨_, _, _, h⟩ | ⟨_, h, _⟩ | ⟨_, h, _⟩
    · exact h
    · rw [List.length_replicate] at h; omega
    · rw [List.length_replicate] at h; omega
  subst he
  have hbwN := Hbw.out.trans (hb9.mono Hbw.out.size)
  clear Hbw
  have Hbw := Lib.hid hbwN
  clear hbwN
  have haN := (Ha.out.below hb9).more hb9.size
  clear Ha
  have Ha := Lib.hid haN
  clear haN
  have hbN := (Hb.out.below hb9).more hb9.size
  clear Hb
  have Hb := Lib.hid hbN
  clear hbN
  have hcN := (Hc.out.below hb9).more hb9.size
  clear Hc
  have Hc := Lib.hid hcN
  clear hcN
  clear hb9 hS Hx20
  go_wp2_with fail
  refine (solve_any 1048576 none 0 0 [] none 0 0 [] w21 RdI.nil IneqsV.nil).mono ?_
  rintro e w22 ⟨A9, m9, c9, A10, m10, c10, a9, core9, er, rfl, hr9, _, hS, hb9⟩
  obtain ⟨h0, h9, _⟩ := hS.least (n := 1048576) (by omega) (by simp) (empty_ok _) (empty_least _)
  subst h0
  have hm9 : m9 = 1048576 := by
    have := hr9.len
    rw [h9, List.length_replicate] at this
    exact this.symm
  subst hm9
  clear h9
  have hbwN := Hbw.out.trans (hb9.mono Hbw.out.size)
  clear Hbw
  have Hbw := Lib.hid hbwN
  clear hbwN
  have haN := (Ha.out.below hb9).more hb9.size
  clear Ha
  have Ha := Lib.hid haN
  clear haN
  have hbN := (Hb.out.below hb9).more hb9.size
  clear Hb
  have Hb := Lib.hid hbN
  clear hbN
  have hcN := (Hc.out.below hb9).more hb9.size
  clear Hc
  have Hc := Lib.hid hcN
  clear hcN
  clear hb9 hS hr9
  go_wp2_with fail
  refine (worksL_any w22).mono ?_; rintro e w23 ⟨rfl, hb9⟩
  have hbwN := Hbw.out.trans (hb9.mono Hbw.out.size)
  clear Hbw
  have Hbw := Lib.hid hbwN
  clear hbwN
  have haN := (Ha.out.below hb9).more hb9.size
  clear Ha
  have Ha := Lib.hid haN
  clear haN
  have hbN := (Hb.out.below hb9).more hb9.size
  clear Hb
  have Hb := Lib.hid hbN
  clear hbN
  have hcN := (Hc.out.below hb9).more hb9.size
  clear Hc
  have Hc := Lib.hid hcN
  clear hcN
  clear hb9
  go_wp2_with fail
  have hbl := below_box (w := w23) (Obj.cells #[.int .u8 3, .int .u8 3] 27)
  have hrl : RdI .u8 (w23.alloc (Obj.cells #[.int .u8 3, .int .u8 3] 27)) (w23.alloc (Obj.cells #[.int .u8 3, .int .u8 3] 27)).heap.size (some ⟨w23.heap.size, 0, none⟩) 2 2 [3, 3] := RowC.rd ⟨_, blk_new w23 _ _, by simp, fun i hi => by match i, hi with | 0, _ => rfl | 1, _ => rfl⟩ rfl (Nat.le_refl _) (by unfold maxLen; omega)
  generalize w23.alloc (Obj.cells #[.int .u8 3, .int .u8 3] 27) = w24 at hbl hrl ⊢
  have hbwN := Hbw.out.trans (hbl.mono Hbw.out.size)
  clear Hbw
  have Hbw := Lib.hid hbwN
  clear hbwN
  have haN := (Ha.out.below hbl).more hbl.size
  clear Ha
  have Ha := Lib.hid haN
  clear haN
  have hbN := (Hb.out.below hbl).more hbl.size
  clear Hb
  have Hb := Lib.hid hbN
  clear hbN
  have hcN := (Hc.out.below hbl).more hbl.size
  clear Hc
  have Hc := Lib.hid hcN
  clear hcN
  clear hbl
  refine (equalM_any A1 m1 c1 [3, 3] _ 2 2 [3, 3] w24 Ha.out hrl).mono ?_
  rintro e w25 ⟨rfl, hb9⟩
  have hbwN := Hbw.out.trans (hb9.mono Hbw.out.size)
  clear Hbw
  have Hbw := Lib.hid hbwN
  clear hbwN
  have haN := (Ha.out.below hb9).more hb9.size
  clear Ha
  have Ha := Lib.hid haN
  clear haN
  have hbN := (Hb.out.below hb9).more hb9.size
  clear Hb
  have Hb := Lib.hid hbN
  clear hbN
  have hcN := (Hc.out.below hb9).more hb9.size
  clear Hc
  have Hc := Lib.hid hcN
  clear hcN
  clear hb9 hrl
  rw [show (([3, 3] : List Int) == [3, 3]) = true from rfl]
  go_wp2_with fail
  have hbl := below_box (w := w25) (Obj.cells #[.int .i64 0, .int .i64 1, .int .i64 3] 3)
  have hrl : RdI .i64 (w25.alloc (Obj.cells #[.int .i64 0, .int .i64 1, .int .i64 3] 3)) (w25.alloc (Obj.cells #[.int .i64 0, .int .i64 1, .int .i64 3] 3)).heap.size (some ⟨w25.heap.size, 0, none⟩) 3 3 [0, 1, 3] := RowC.rd ⟨_, blk_new w25 _ _, by simp, fun i hi => by match i, hi with | 0, _ => rfl | 1, _ => rfl | 2, _ => rfl⟩ rfl (Nat.le_refl _) (by unfold maxLen; omega)
  generalize w25.alloc (Obj.cells #[.int .i64 0, .int .i64 1, .int .i64 3] 3) = w26 at hbl hrl ⊢
  have hbwN := Hbw.out.trans (hbl.mono Hbw.out.size)
  clear Hbw
  have Hbw := Lib.hid hbwN
  clear hbwN
  have haN := (Ha.out.below hbl).more hbl.size
  clear Ha
  have Ha := Lib.hid haN
  clear haN
  have hbN := (Hb.out.below hbl).more hbl.size
  clear Hb
  have Hb := Lib.hid hbN
  clear hbN
  have hcN := (Hc.out.below hbl).more hbl.size
  clear Hc
  have Hc := Lib.hid hcN
  clear hcN
  clear hbl
  refine (equalI_any A4 m4 c4 [0, 1, 3] _ 3 3 [0, 1, 3] w26 _ _ Hb.out hrl).mono ?_
  rintro e w27 ⟨rfl, hb9⟩
  have hbwN := Hbw.out.trans (hb9.mono Hbw.out.size)
  clear Hbw
  have Hbw := Lib.hid hbwN
  clear hbwN
  have haN := (Ha.out.below hb9).more hb9.size
  clear Ha
  have Ha := Lib.hid haN
  clear haN
  have hbN := (Hb.out.below hb9).more hb9.size
  clear Hb
  have Hb := Lib.hid hbN
  clear hbN
  have hcN := (Hc.out.below hb9).more hb9.size
  clear Hc
  have Hc := Lib.hid hcN
  clear hcN
  clear hb9 hrl
  rw [show (([0, 1, 3] : List Int) == [0, 1, 3]) = true from rfl]
  go_wp2_with fail
  have hbl := below_box (w := w27) (Obj.cells #[.int .i64 0, .int .i64 1] 3)
  have hrl : RdI .i64 (w27.alloc (Obj.cells #[.int .i64 0, .int .i64 1] 3)) (w27.alloc (Obj.cells #[.int .i64 0, .int .i64 1] 3)).heap.size (some ⟨w27.heap.size, 0, none⟩) 2 2 [0, 1] := RowC.rd ⟨_, blk_new w27 _ _, by simp, fun i hi => by match i, hi with | 0, _ => rfl | 1, _ => rfl⟩ rfl (Nat.le_refl _) (by unfold maxLen; omega)
  generalize w27.alloc (Obj.cells #[.int .i64 0, .int .i64 1] 3) = w28 at hbl hrl ⊢
  have hbwN := Hbw.out.trans (hbl.mono Hbw.out.size)
  clear Hbw
  have Hbw := Lib.hid hbwN
  clear hbwN
  have haN := (Ha.out.below hbl).more hbl.size
  clear Ha
  have Ha := Lib.hid haN
  clear haN
  have hbN := (Hb.out.below hbl).more hbl.size
  clear Hb
  have Hb := Lib.hid hbN
  clear hbN
  have hcN := (Hc.out.below hbl).more hbl.size
  clear Hc
  have Hc := Lib.hid hcN
  clear hcN
  clear hbl
  refine (equalI_any A6 m6 c6 [0, 1] _ 2 2 [0, 1] w28 _ _ Hc.out hrl).mono ?_
  rintro e w29 ⟨rfl, hb9⟩
  have hbwN := Hbw.out.trans (hb9.mono Hbw.out.size)
  clear Hbw
  have Hbw := Lib.hid hbwN
  clear hbwN
  have haN := (Ha.out.below hb9).more hb9.size
  clear Ha
  have Ha := Lib.hid haN
  clear haN
  have hbN := (Hb.out.below hb9).more hb9.size
  clear Hb
  have Hb := Lib.hid hbN
  clear hbN
  have hcN := (Hc.out.below hb9).more hb9.size
  clear Hc
  have Hc := Lib.hid hcN
  clear hcN
  clear hb9 hrl
  rw [show (([0, 1] : List Int) == [0, 1]) = true from rfl]
  go_wp2_with fail
  go_ret
  exact ⟨by first | rfl | decide | simp, Hbw.out⟩

/-! ### the row's step -/
namespace leastKnown
set_option maxRecDepth 100000 in
theorem lifted (os : Os) (started : os.Started) (H : Type) (enc : TypeId × Value → H) :
    ReturnsInHanded {} Try.checked os 3 .any (Rows.leastKnownSpec.pre6 enc Try.prog Try.f3 Rows.leastKnownRow.domain false) (Rows.leastKnownSpec.post enc Try.prog Try.f3 false true false false) := by
  refine returnsInHanded_of_change_sized (C := Try.checked) own started (by kernel_rfl) Try.func3
    (ChangeSpec.witness6 (enc := enc) (C := Try.checked) false ⟨#[], #[], []⟩ 8 (by kernel_rfl) (by kernel_rfl) (by kernel_rfl) (by kernel_rfl)) ?_
  intro W base args ds gs before hval0 hW hcnd hsz0 _
  have hsz : (DataW.weightsEach Try.prog (Try.f3.params.toList ++ Rows.leastKnownSpec.plain.varTypes Try.prog) (ds ++ gs)).all (· ≤ reachBytes) = true := hsz0
  have hval : ∀ (j : Nat) t v, Try.f3.params[j]? = some t → args[j]? = some v → Value.okWide Try.prog W .any base t v := hval0
  have hW' := hW
  obtain ⟨p, q, hA0, hV, rfl, hfz, hnd⟩ := hW
  have hA : DataW.TrodAll enc Try.prog W 0 (fun _ => true) true Try.f3.params.toList args.toList ds p := hA0
  rw [Try.params3] at hA hval hsz
  obtain ⟨hargs, rfl, rfl⟩ := trodAll_nil hA
  obtain rfl : args = #[] := by cases args; simp_all
  obtain ⟨rfl, rfl⟩ := trodVars_none hV
  refine (walk_leastKnown (w := W) ).mono fun e W' ⟨he, bel⟩ => ?_
  subst he
  exact ⟨_, rfl, law_post laidOut (by kernel_rfl) rfl rfl Try.underlying4 hW' rfl rfl rfl bel⟩
theorem over : Rows.leastKnownRow.holds Try.pinned (OpenSpec.ofChange Rows.leastKnownSpec) :=
  OpenClaim.holds_of_wide 3 Try.f3 rfl rfl rfl rfl rfl rfl rfl ⟨rfl, rfl, rfl, rfl, rfl⟩ rfl rfl rfl rfl rfl (by kernel_rfl) Try.func3 (by kernel_rfl)
    (of_decide_eq_true (by kernel_rfl)) (by unfold Func.isWrapper; first | (rw [if_pos (by decide +kernel)]; kernel_rfl) | (rw [if_neg (by decide +kernel)]; exact ⟨rfl, rfl⟩))
    (fun os started H enc _ => lifted os started H enc)
/-- the statement -/
theorem proved : Rows.LeastKnownSaid := over
#print axioms proved
end leastKnown
end Go.Proofs.Ythabkpkgocafoaa
