/- The contracts of usufructref02.Join, Sum. -/
import Derived.Test.YtimlbpjdgnapoaaRefV
namespace Go.Proofs.Ytimlbpjdgnapoaa
set_option linter.unusedVariables false
set_option linter.unusedSimpArgs false
open Go.RowKit


set_option maxHeartbeats 1000000 in
theorem refJoin_t (v1 v2 : Value) (a b : TermD) (w : World) (B B' : Nat) (h1 : TermV w B v1 a) (h2 : TermV w B' v2 b) (hB : B ≤ w.heap.size) (hB' : B' ≤ w.heap.size) (hbig : a.vars.length + b.vars.length ≤ 1099511627776) :
    Calls Try.prog 48 #[v1, v2] w (RetT (rJoin a b) w) := by
  obtain ⟨A, n, c, rfl, hr⟩ := h1
  obtain ⟨A', n', c', rfl, hr'⟩ := h2
  obtain ⟨an, ac, av⟩ := a
  obtain ⟨bn, bc, bv⟩ := b
  simp only at hr hr'
  have ⟨hbel0, hsz0, ha0, hb0, hz0⟩ := T3_facts ⟨an, ac, av⟩ ⟨bn, bc, bv⟩ A A' n c n' c' w
  have hr0 := (hr.more hB).below hbel0
  have hr0' := (hr'.more hB').below hbel0
  cases an
  · cases bn
    · show Calls _ _ _ _ (RetT (greatT ⟨false, ac, av⟩ ⟨false, bc, bv⟩) w)
      have hc2 := great_any_t _ _ ⟨false, ac, av⟩ ⟨false, bc, bv⟩ (T3 ⟨false, ac, av⟩ ⟨false, bc, bv⟩ A A' n c n' c' w) w.heap.size w.heap.size ⟨A, n, c, rfl, hr0⟩ ⟨A', n', c', rfl, hr0'⟩ (by omega) (by omega) (by simp at hbig ⊢; omega)
      generalize greatT ⟨false, ac, av⟩ ⟨false, bc, bv⟩ = T at hc2 ⊢
      have Hc2 := Lib.hid hc2
      clear hc2
      go_enter Try.func48, Try.ntmps48
      go_wp2_with fail
      refine Hc2.out.mono ?_
      rintro e w3 ⟨A3, n3, c3, rfl, hr3, hb3⟩
      have hz3 := hz0.below hb3 hz0.lt
      have hbel3 := hbel0.trans (hb3.mono hbel0.size)
      have z0 : w3.cell? ⟨w.heap.size + 1 + 1, 0, none⟩ = some (.bool false) := hz3.cell 0
      have z1 : w3.cell? ⟨w.heap.size + 1 + 1, 1, none⟩ = some (.int .u8 0) := hz3.cell 1
      have z2 : w3.cell? ⟨w.heap.size + 1 + 1, 2, none⟩ = some (.slice none 0 0) := hz3.cell 2
      have f0 := hz3.frozen 0
      have f1 := hz3.frozen 1
      have f2 := hz3.frozen 2
      have hle : w.heap.size ≤ w.heap.size + 1 + 1 := by omega
      clear hb3
      go_wp2_with fail
      have hs := hz3.set3 (.bool T.never) (.int .u8 T.c) (.slice A3 n3 c3)
      have hb3 := ((hbel3.setCell (p := ⟨w.heap.size + 1 + 1, 0, none⟩) hle (.bool T.never)).setCell (p := ⟨w.heap.size + 1 + 1, 1, none⟩) hle (.int .u8 T.c)).setCell (p := ⟨w.heap.size + 1 + 1, 2, none⟩) hle (.slice A3 n3 c3)
      have hr9 := (hr3.put3 hz3 (.bool T.never) (.int .u8 T.c) (.slice A3 n3 c3)).more (B' := (((w3.setCell ⟨w.heap.size + 1 + 1, 0, none⟩ (.bool T.never)).setCell ⟨w.heap.size + 1 + 1, 1, none⟩ (.int .u8 T.c)).setCell ⟨w.heap.size + 1 + 1, 2, none⟩ (.slice A3 n3 c3)).heap.size) (by simp)
      generalize (((w3.setCell ⟨w.heap.size + 1 + 1, 0, none⟩ (.bool T.never)).setCell ⟨w.heap.size + 1 + 1, 1, none⟩ (.int .u8 T.c)).setCell ⟨w.heap.size + 1 + 1, 2, none⟩ (.slice A3 n3 c3)) = W3 at hs hb3 hr9 ⊢
      have d0 : W3.cell? ⟨w.heap.size + 1 + 1, 0, none⟩ = some (.bool T.never) := hs.cell 0
      have d1 : W3.cell? ⟨w.heap.size + 1 + 1, 1, none⟩ = some (.int .u8 T.c) := hs.cell 1
      have d2 : W3.cell? ⟨w.heap.size + 1 + 1, 2, none⟩ = some (.slice A3 n3 c3) := hs.cell 2
      exact bodyPost_ret (v := .agg #[.bool T.never, .int .u8 T.c, .slice A3 n3 c3]) (by simp [results, Try.results48, go_sem, d0, d1, d2]) rfl ⟨_, _, _, rfl, hr9, hb3⟩
    · show Calls _ _ _ _ (RetT (greatT ⟨false, 2, []⟩ ⟨false, ac, av⟩) w)
      have hc2 := great_any_t _ _ ⟨false, 2, []⟩ ⟨false, ac, av⟩ (T3 ⟨false, ac, av⟩ ⟨true, bc, bv⟩ A A' n c n' c' w) w.heap.size w.heap.size ⟨none, 0, 0, rfl, RdI.nil⟩ ⟨A, n, c, rfl, hr0⟩ (by omega) (by omega) (by simp at hbig ⊢; omega)
      generalize greatT ⟨false, 2, []⟩ ⟨false, ac, av⟩ = T at hc2 ⊢
      have Hc2 := Lib.hid hc2
      clear hc2
      go_enter Try.func48, Try.ntmps48
      go_wp2_with fail
      refine Hc2.out.mono ?_
      rintro e w3 ⟨A3, n3, c3, rfl, hr3, hb3⟩
      have hz3 := hz0.below hb3 hz0.lt
      have hbel3 := hbel0.trans (hb3.mono hbel0.size)
      have z0 : w3.cell? ⟨w.heap.size + 1 + 1, 0, none⟩ = some (.bool false) := hz3.cell 0
      have z1 : w3.cell? ⟨w.heap.size + 1 + 1, 1, none⟩ = some (.int .u8 0) := hz3.cell 1
      have z2 : w3.cell? ⟨w.heap.size + 1 + 1, 2, none⟩ = some (.slice none 0 0) := hz3.cell 2
      have f0 := hz3.frozen 0
      have f1 := hz3.frozen 1
      have f2 := hz3.frozen 2
      have hle : w.heap.size ≤ w.heap.size + 1 + 1 := by omega
      clear hb3
      go_wp2_with fail
      have hs := hz3.set3 (.bool T.never) (.int .u8 T.c) (.slice A3 n3 c3)
      have hb3 := ((hbel3.setCell (p := ⟨w.heap.size + 1 + 1, 0, none⟩) hle (.bool T.never)).setCell (p := ⟨w.heap.size + 1 + 1, 1, none⟩) hle (.int .u8 T.c)).setCell (p := ⟨w.heap.size + 1 + 1, 2, none⟩) hle (.slice A3 n3 c3)
      have hr9 := (hr3.put3 hz3 (.bool T.never) (.int .u8 T.c) (.slice A3 n3 c3)).more (B' := (((w3.setCell ⟨w.heap.size + 1 + 1, 0, none⟩ (.bool T.never)).setCell ⟨w.heap.size + 1 + 1, 1, none⟩ (.int .u8 T.c)).setCell ⟨w.heap.size + 1 + 1, 2, none⟩ (.slice A3 n3 c3)).heap.size) (by simp)
      generalize (((w3.setCell ⟨w.heap.size + 1 + 1, 0, none⟩ (.bool T.never)).setCell ⟨w.heap.size + 1 + 1, 1, none⟩ (.int .u8 T.c)).setCell ⟨w.heap.size + 1 + 1, 2, none⟩ (.slice A3 n3 c3)) = W3 at hs hb3 hr9 ⊢
      have d0 : W3.cell? ⟨w.heap.size + 1 + 1, 0, none⟩ = some (.bool T.never) := hs.cell 0
      have d1 : W3.cell? ⟨w.heap.size + 1 + 1, 1, none⟩ = some (.int .u8 T.c) := hs.cell 1
      have d2 : W3.cell? ⟨w.heap.size + 1 + 1, 2, none⟩ = some (.slice A3 n3 c3) := hs.cell 2
      exact bodyPost_ret (v := .agg #[.bool T.never, .int .u8 T.c, .slice A3 n3 c3]) (by simp [results, Try.results48, go_sem, d0, d1, d2]) rfl ⟨_, _, _, rfl, hr9, hb3⟩
  · cases bn
    · show Calls _ _ _ _ (RetT (greatT ⟨false, 2, []⟩ ⟨false, bc, bv⟩) w)
      have hc2 := great_any_t _ _ ⟨false, 2, []⟩ ⟨false, bc, bv⟩ (T3 ⟨true, ac, av⟩ ⟨false, bc, bv⟩ A A' n c n' c' w) w.heap.size w.heap.size ⟨none, 0, 0, rfl, RdI.nil⟩ ⟨A', n', c', rfl, hr0'⟩ (by omega) (by omega) (by simp at hbig ⊢; omega)
      generalize greatT ⟨false, 2, []⟩ ⟨false, bc, bv⟩ = T at hc2 ⊢
      have Hc2 := Lib.hid hc2
      clear hc2
      go_enter Try.func48, Try.ntmps48
      go_wp2_with fail
      refine Hc2.out.mono ?_
      rintro e w3 ⟨A3, n3, c3, rfl, hr3, hb3⟩
      have hz3 := hz0.below hb3 hz0.lt
      have hbel3 := hbel0.trans (hb3.mono hbel0.size)
      have z0 : w3.cell? ⟨w.heap.size + 1 + 1, 0, none⟩ = some (.bool false) := hz3.cell 0
      have z1 : w3.cell? ⟨w.heap.size + 1 + 1, 1, none⟩ = some (.int .u8 0) := hz3.cell 1
      have z2 : w3.cell? ⟨w.heap.size + 1 + 1, 2, none⟩ = some (.slice none 0 0) := hz3.cell 2
      have f0 := hz3.frozen 0
      have f1 := hz3.frozen 1
      have f2 := hz3.frozen 2
      have hle : w.heap.size ≤ w.heap.size + 1 + 1 := by omega
      clear hb3
      go_wp2_with fail
      have hs := hz3.set3 (.bool T.never) (.int .u8 T.c) (.slice A3 n3 c3)
      have hb3 := ((hbel3.setCell (p := ⟨w.heap.size + 1 + 1, 0, none⟩) hle (.bool T.never)).setCell (p := ⟨w.heap.size + 1 + 1, 1, none⟩) hle (.int .u8 T.c)).setCell (p := ⟨w.heap.size + 1 + 1, 2, none⟩) hle (.slice A3 n3 c3)
      have hr9 := (hr3.put3 hz3 (.bool T.never) (.int .u8 T.c) (.slice A3 n3 c3)).more (B' := (((w3.setCell ⟨w.heap.size + 1 + 1, 0, none⟩ (.bool T.never)).setCell ⟨w.heap.size + 1 + 1, 1, none⟩ (.int .u8 T.c)).setCell ⟨w.heap.size + 1 + 1, 2, none⟩ (.slice A3 n3 c3)).heap.size) (by simp)
      generalize (((w3.setCell ⟨w.heap.size + 1 + 1, 0, none⟩ (.bool T.never)).setCell ⟨w.heap.size + 1 + 1, 1, none⟩ (.int .u8 T.c)).setCell ⟨w.heap.size + 1 + 1, 2, none⟩ (.slice A3 n3 c3)) = W3 at hs hb3 hr9 ⊢
      have d0 : W3.cell? ⟨w.heap.size + 1 + 1, 0, none⟩ = some (.bool T.never) := hs.cell 0
      have d1 : W3.cell? ⟨w.heap.size + 1 + 1, 1, none⟩ = some (.int .u8 T.c) := hs.cell 1
      have d2 : W3.cell? ⟨w.heap.size + 1 + 1, 2, none⟩ = some (.slice A3 n3 c3) := hs.cell 2
      exact bodyPost_ret (v := .agg #[.bool T.never, .int .u8 T.c, .slice A3 n3 c3]) (by simp [results, Try.results48, go_sem, d0, d1, d2]) rfl ⟨_, _, _, rfl, hr9, hb3⟩
    · show Calls _ _ _ _ (RetT ⟨true, ac, av⟩ w)
      clear hr0 hr0' hbel0 hsz0 ha0 hb0 hz0
      go_enter Try.func48, Try.ntmps48
      go_wp2_with fail
      have hrm := hr.more hB
      have hb3 : Below w.heap.size w (((w.alloc (Obj.cells #[.bool true, .int .u8 ac, .slice A n c] 37)).alloc (Obj.cells #[.bool true, .int .u8 bc, .slice A' n' c'] 37)).alloc (Obj.cells #[.bool true, .int .u8 ac, .slice A n c] 37)) :=
        (((Below.refl _ _).alloc (Nat.le_refl _) _).alloc (by simp) _).alloc (by simp; omega) _
      exact bodyPost_ret (v := .agg #[.bool true, .int .u8 ac, .slice A n c]) (by simp [results, Try.results48, go_sem]) rfl ⟨_, _, _, rfl, (hrm.below hb3).more hb3.size, hb3⟩

theorem refSum_t (v1 v2 : Value) (a b : TermD) (w : World) (B B' : Nat) (h1 : TermV w B v1 a) (h2 : TermV w B' v2 b) (hB : B ≤ w.heap.size) (hB' : B' ≤ w.heap.size) :
    Calls Try.prog 49 #[v1, v2] w (RetT (rSum a b) w) := by
  obtain ⟨A, n, c, rfl, hr⟩ := h1
  obtain ⟨A', n', c', rfl, hr'⟩ := h2
  obtain ⟨an, ac, av⟩ := a
  obtain ⟨bn, bc, bv⟩ := b
  simp only at hr hr'
  have hrm := hr.more hB
  have hrm' := hr'.more hB'
  have hrn : RdI .i64 w w.heap.size none 0 0 [] := RdI.nil
  cases an
  · cases bn
    · go_enter Try.func49, Try.ntmps49
      go_wp2_with fail
      have hb3 : Below w.heap.size w (((w.alloc (Obj.cells #[.bool false, .int .u8 ac, .slice A n c] 37)).alloc (Obj.cells #[.bool false, .int .u8 bc, .slice A' n' c'] 37)).alloc (Obj.cells #[.bool false, .int .u8 3, .slice none 0 0] 37)) :=
        (((Below.refl _ _).alloc (Nat.le_refl _) _).alloc (by simp) _).alloc (by simp; omega) _
      exact bodyPost_ret (v := .agg #[.bool false, .int .u8 3, .slice none 0 0]) (by simp [results, Try.results49, go_sem]) rfl ⟨_, _, _, rfl, (hrn.below hb3).more hb3.size, hb3⟩
    · go_enter Try.func49, Try.ntmps49
      go_wp2_with fail
      have hb3 : Below w.heap.size w (((w.alloc (Obj.cells #[.bool false, .int .u8 ac, .slice A n c] 37)).alloc (Obj.cells #[.bool true, .int .u8 bc, .slice A' n' c'] 37)).alloc (Obj.cells #[.bool false, .int .u8 ac, .slice A n c] 37)) :=
        (((Below.refl _ _).alloc (Nat.le_refl _) _).alloc (by simp) _).alloc (by simp; omega) _
      exact bodyPost_ret (v := .agg #[.bool false, .int .u8 ac, .slice A n c]) (by simp [results, Try.results49, go_sem]) rfl ⟨_, _, _, rfl, (hrm.below hb3).more hb3.size, hb3⟩
  · go_enter Try.func49, Try.ntmps49
    go_wp2_with fail
    have hb3 : Below w.heap.size w (((w.alloc (Obj.cells #[.bool true, .int .u8 ac, .slice A n c] 37)).alloc (Obj.cells #[.bool bn, .int .u8 bc, .slice A' n' c'] 37)).alloc (Obj.cells #[.bool bn, .int .u8 bc, .slice A' n' c'] 37)) :=
      (((Below.refl _ _).alloc (Nat.le_refl _) _).alloc (by simp) _).alloc (by simp; omega) _
    exact bodyPost_ret (v := .agg #[.bool bn, .int .u8 bc, .slice A' n' c']) (by simp [results, Try.results49, go_sem]) rfl ⟨_, _, _, rfl, (hrm'.below hb3).more hb3.size, hb3⟩

end Go.Proofs.Ytimlbpjdgnapoaa
