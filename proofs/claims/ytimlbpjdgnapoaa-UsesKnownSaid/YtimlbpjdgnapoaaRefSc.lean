/- The contract of usufructref02.Scale. -/
import Derived.Test.YtimlbpjdgnapoaaRefV
namespace Go.Proofs.Ytimlbpjdgnapoaa
set_option linter.unusedVariables false
set_option linter.unusedSimpArgs false
open Go.RowKit

set_option maxHeartbeats 1000000 in
theorem refScale_t (c v : Int) (tv : Value) (t : TermD) (w : World) (B : Nat) (hv : TermV w B tv t) (hB : B ≤ w.heap.size) (hbig : t.vars.length ≤ 1000000) :
    Calls Try.prog 61 #[.agg #[.int .i64 v, .int .u8 c], tv] w (RetT (rScale c v t) w) := by
  obtain ⟨A, n, cp, rfl, hr⟩ := hv
  obtain ⟨tn, tc, ts⟩ := t
  simp only at hr hbig
  replace hr := hr.more hB
  cases tn
  · have hbel0 : Below w.heap.size w (((w.alloc (Obj.cells #[.int .i64 v, .int .u8 c] 46)).alloc (Obj.cells #[.bool false, .int .u8 tc, .slice A n cp] 37)).alloc (Obj.cells #[.bool false, .int .u8 0, .slice none 0 0] 37)) :=
      (((Below.refl _ _).alloc (Nat.le_refl _) _).alloc (by simp) _).alloc (by simp; omega) _
    have hz0 := blk_new ((w.alloc (Obj.cells #[.int .i64 v, .int .u8 c] 46)).alloc (Obj.cells #[.bool false, .int .u8 tc, .slice A n cp] 37)) #[.bool false, .int .u8 0, .slice none 0 0] 37
    rw [World.size_alloc, World.size_alloc] at hz0
    have hsz : (((w.alloc (Obj.cells #[.int .i64 v, .int .u8 c] 46)).alloc (Obj.cells #[.bool false, .int .u8 tc, .slice A n cp] 37)).alloc (Obj.cells #[.bool false, .int .u8 0, .slice none 0 0] 37)).heap.size = w.heap.size + 1 + 1 + 1 := by simp
    have hr0 := hr.below hbel0
    obtain ⟨W, hW⟩ : ∃ W, ((w.alloc (Obj.cells #[.int .i64 v, .int .u8 c] 46)).alloc (Obj.cells #[.bool false, .int .u8 tc, .slice A n cp] 37)).alloc (Obj.cells #[.bool false, .int .u8 0, .slice none 0 0] 37) = W := ⟨_, rfl⟩
    rw [hW] at hbel0 hz0 hsz hr0
    have HW := Lib.hid hW
    clear hW
    by_cases h0 : c = 0
    · have d : (c != 0) = false := by simp [h0]
      have hs : rScale c v ⟨false, tc, ts⟩ = greatT ⟨false, 1, [v]⟩ ⟨false, tc, ts⟩ := by unfold rScale; simp [h0]
      rw [hs]
      have hb4 : Below W.heap.size W (W.alloc (Obj.cells #[.int .i64 v] 3)) := (Below.refl _ _).alloc (Nat.le_refl _) _
      have hrd : RdI .i64 (W.alloc (Obj.cells #[.int .i64 v] 3)) (W.heap.size + 1) (some ⟨W.heap.size, 0, none⟩) 1 1 [v] := ⟨Rd.new W [.int .i64 v] 3, Nat.le_refl _, by unfold maxLen; omega⟩
      have hq := great_any_t (.agg #[.bool false, .int .u8 1, .slice (some ⟨W.heap.size, 0, none⟩) 1 1]) (.agg #[.bool false, .int .u8 tc, .slice A n cp]) ⟨false, 1, [v]⟩ ⟨false, tc, ts⟩ (W.alloc (Obj.cells #[.int .i64 v] 3)) _ w.heap.size ⟨_, 1, 1, rfl, hrd⟩ ⟨A, n, cp, rfl, hr0.below (hb4.mono (by omega))⟩ (by simp) (by simp; omega) (by simp; omega)
      generalize greatT ⟨false, 1, [v]⟩ ⟨false, tc, ts⟩ = T at hq ⊢
      have Hq := Lib.hid hq
      clear hq hs h0 hrd
      go_enter Try.func61, Try.ntmps61
      go_wp2_with fail
      rw [HW.out, ← hsz]
      refine Hq.out.mono ?_
      rintro e w3 ⟨A3, n3, c3, rfl, hr3, hb3⟩
      replace hb3 := hb4.trans (hb3.mono hb4.size)
      obtain ⟨hz3, hbel3⟩ : Blk w3 (w.heap.size + 1 + 1) 37 #[.bool false, .int .u8 0, .slice none 0 0] ∧ Below w.heap.size w w3 := ⟨hz0.below hb3 hz0.lt, hbel0.trans (hb3.mono hbel0.size)⟩
      have z0 : w3.cell? ⟨w.heap.size + 1 + 1, 0, none⟩ = some (.bool false) := hz3.cell 0
      have z1 : w3.cell? ⟨w.heap.size + 1 + 1, 1, none⟩ = some (.int .u8 0) := hz3.cell 1
      have z2 : w3.cell? ⟨w.heap.size + 1 + 1, 2, none⟩ = some (.slice none 0 0) := hz3.cell 2
      have f0 := hz3.frozen 0
      have f1 := hz3.frozen 1
      have f2 := hz3.frozen 2
      have hle : w.heap.size ≤ w.heap.size + 1 + 1 := by omega
      clear hb3
      go_wp2_with fail
      have hs := hz3.set3 (.bool T.never) (.int .u8 T.c) (.slice A3 n3 c3)
      have hb3 := ((hbel3.setCell (p := ⟨w.heap.size + 1 + 1, 0, none⟩) hle (.bool T.never)).setCell (p := ⟨w.heap.size + 1 + 1, 1, none⟩) hle (.int .u8 T.c)).setCell (p := ⟨w.heap.size + 1 + 1, 2, none⟩) hle (.slice A3 n3 c3)
      have hr9 := (hr3.put3 hz3 (.bool T.never) (.int .u8 T.c) (.slice A3 n3 c3)).more (B' := (((w3.setCell ⟨w.heap.size + 1 + 1, 0, none⟩ (.bool T.never)).setCell ⟨w.heap.size + 1 + 1, 1, none⟩ (.int .u8 T.c)).setCell ⟨w.heap.size + 1 + 1, 2, none⟩ (.slice A3 n3 c3)).heap.size) (by simp)
      generalize (((w3.setCell ⟨w.heap.size + 1 + 1, 0, none⟩ (.bool T.never)).setCell ⟨w.heap.size + 1 + 1, 1, none⟩ (.int .u8 T.c)).setCell ⟨w.heap.size + 1 + 1, 2, none⟩ (.slice A3 n3 c3)) = W3 at hs hb3 hr9 ⊢
      have d0 : W3.cell? ⟨w.heap.size + 1 + 1, 0, none⟩ = some (.bool T.never) := hs.cell 0
      have d1 : W3.cell? ⟨w.heap.size + 1 + 1, 1, none⟩ = some (.int .u8 T.c) := hs.cell 1
      have d2 : W3.cell? ⟨w.heap.size + 1 + 1, 2, none⟩ = some (.slice A3 n3 c3) := hs.cell 2
      exact bodyPost_ret (v := .agg #[.bool T.never, .int .u8 T.c, .slice A3 n3 c3]) (by simp [results, Try.results61, go_sem, d0, d1, d2]) rfl ⟨_, _, _, rfl, hr9, hb3⟩
    · have d : (c != 0) = true := by simp [h0]
      have hs : rScale c v ⟨false, tc, ts⟩ = greatT ⟨false, c, []⟩ ⟨false, tc, ts⟩ := by unfold rScale; simp [h0]
      rw [hs]
      have hq := great_any_t (.agg #[.bool false, .int .u8 c, .slice none 0 0]) (.agg #[.bool false, .int .u8 tc, .slice A n cp]) ⟨false, c, []⟩ ⟨false, tc, ts⟩ W w.heap.size w.heap.size ⟨none, 0, 0, rfl, RdI.nil⟩ ⟨A, n, cp, rfl, hr0⟩ (by omega) (by omega) (by simp; omega)
      generalize greatT ⟨false, c, []⟩ ⟨false, tc, ts⟩ = T at hq ⊢
      have Hq := Lib.hid hq
      clear hq hs h0
      go_enter Try.func61, Try.ntmps61
      go_wp2_with fail
      rw [HW.out]
      refine Hq.out.mono ?_
      rintro e w3 ⟨A3, n3, c3, rfl, hr3, hb3⟩
      obtain ⟨hz3, hbel3⟩ : Blk w3 (w.heap.size + 1 + 1) 37 #[.bool false, .int .u8 0, .slice none 0 0] ∧ Below w.heap.size w w3 := ⟨hz0.below hb3 hz0.lt, hbel0.trans (hb3.mono hbel0.size)⟩
      have z0 : w3.cell? ⟨w.heap.size + 1 + 1, 0, none⟩ = some (.bool false) := hz3.cell 0
      have z1 : w3.cell? ⟨w.heap.size + 1 + 1, 1, none⟩ = some (.int .u8 0) := hz3.cell 1
      have z2 : w3.cell? ⟨w.heap.size + 1 + 1, 2, none⟩ = some (.slice none 0 0) := hz3.cell 2
      have f0 := hz3.frozen 0
      have f1 := hz3.frozen 1
      have f2 := hz3.frozen 2
      have hle : w.heap.size ≤ w.heap.size + 1 + 1 := by omega
      clear hb3
      go_wp2_with fail
      have hs := hz3.set3 (.bool T.never) (.int .u8 T.c) (.slice A3 n3 c3)
      have hb3 := ((hbel3.setCell (p := ⟨w.heap.size + 1 + 1, 0, none⟩) hle (.bool T.never)).setCell (p := ⟨w.heap.size + 1 + 1, 1, none⟩) hle (.int .u8 T.c)).setCell (p := ⟨w.heap.size + 1 + 1, 2, none⟩) hle (.slice A3 n3 c3)
      have hr9 := (hr3.put3 hz3 (.bool T.never) (.int .u8 T.c) (.slice A3 n3 c3)).more (B' := (((w3.setCell ⟨w.heap.size + 1 + 1, 0, none⟩ (.bool T.never)).setCell ⟨w.heap.size + 1 + 1, 1, none⟩ (.int .u8 T.c)).setCell ⟨w.heap.size + 1 + 1, 2, none⟩ (.slice A3 n3 c3)).heap.size) (by simp)
      generalize (((w3.setCell ⟨w.heap.size + 1 + 1, 0, none⟩ (.bool T.never)).setCell ⟨w.heap.size + 1 + 1, 1, none⟩ (.int .u8 T.c)).setCell ⟨w.heap.size + 1 + 1, 2, none⟩ (.slice A3 n3 c3)) = W3 at hs hb3 hr9 ⊢
      have d0 : W3.cell? ⟨w.heap.size + 1 + 1, 0, none⟩ = some (.bool T.never) := hs.cell 0
      have d1 : W3.cell? ⟨w.heap.size + 1 + 1, 1, none⟩ = some (.int .u8 T.c) := hs.cell 1
      have d2 : W3.cell? ⟨w.heap.size + 1 + 1, 2, none⟩ = some (.slice A3 n3 c3) := hs.cell 2
      exact bodyPost_ret (v := .agg #[.bool T.never, .int .u8 T.c, .slice A3 n3 c3]) (by simp [results, Try.results61, go_sem, d0, d1, d2]) rfl ⟨_, _, _, rfl, hr9, hb3⟩
  · go_enter Try.func61, Try.ntmps61
    go_wp2_with fail
    have hb3 : Below w.heap.size w (((w.alloc (Obj.cells #[.int .i64 v, .int .u8 c] 46)).alloc (Obj.cells #[.bool true, .int .u8 tc, .slice A n cp] 37)).alloc (Obj.cells #[.bool true, .int .u8 tc, .slice A n cp] 37)) :=
      (((Below.refl _ _).alloc (Nat.le_refl _) _).alloc (by simp) _).alloc (by simp; omega) _
    exact bodyPost_ret (v := .agg #[.bool true, .int .u8 tc, .slice A n cp]) (by simp [results, Try.results61, go_sem]) rfl ⟨_, _, _, rfl, (hr.below hb3).more hb3.size, hb3⟩

end Go.Proofs.Ytimlbpjdgnapoaa
