/- The contracts of usufructref02.greatest, Join, Sum. -/
import Derived.Test.YtimlbpjdgnapoaaRefU
namespace Go.Proofs.Ytimlbpjdgnapoaa
set_option linter.unusedVariables false
set_option linter.unusedSimpArgs false
open Go.RowKit

/-- three blocks that a function of two terms begins with: its parameters and its result -/
def T3 (a b : TermD) (A A' : Option Addr) (n c n' c' : Nat) (w : World) : World :=
  ((w.alloc (Obj.cells #[.bool a.never, .int .u8 a.c, .slice A n c] 37)).alloc (Obj.cells #[.bool b.never, .int .u8 b.c, .slice A' n' c'] 37)).alloc (Obj.cells #[.bool false, .int .u8 0, .slice none 0 0] 37)
theorem T3_facts (a b : TermD) (A A' : Option Addr) (n c n' c' : Nat) (w : World) : Below w.heap.size w (T3 a b A A' n c n' c' w) ∧ (T3 a b A A' n c n' c' w).heap.size = w.heap.size + 3 ∧
    Blk (T3 a b A A' n c n' c' w) w.heap.size 37 #[.bool a.never, .int .u8 a.c, .slice A n c] ∧ Blk (T3 a b A A' n c n' c' w) (w.heap.size + 1) 37 #[.bool b.never, .int .u8 b.c, .slice A' n' c'] ∧
    Blk (T3 a b A A' n c n' c' w) (w.heap.size + 1 + 1) 37 #[.bool false, .int .u8 0, .slice none 0 0] := by
  refine ⟨(((Below.refl _ _).alloc (Nat.le_refl _) _).alloc (by simp) _).alloc (by simp; omega) _, by simp [T3], ((blk_new _ _ _).alloc _).alloc _, ?_, ?_⟩
  · have := (blk_new (w.alloc (Obj.cells #[.bool a.never, .int .u8 a.c, .slice A n c] 37)) #[.bool b.never, .int .u8 b.c, .slice A' n' c'] 37).alloc (Obj.cells #[.bool false, .int .u8 0, .slice none 0 0] 37)
    rw [World.size_alloc] at this
    exact this
  · have := blk_new ((w.alloc (Obj.cells #[.bool a.never, .int .u8 a.c, .slice A n c] 37)).alloc (Obj.cells #[.bool b.never, .int .u8 b.c, .slice A' n' c'] 37)) #[.bool false, .int .u8 0, .slice none 0 0] 37
    rw [World.size_alloc, World.size_alloc] at this
    exact this


set_option maxHeartbeats 1000000 in
theorem great_any_t (v1 v2 : Value) (a b : TermD) (w : World) (B B' : Nat) (h1 : TermV w B v1 a) (h2 : TermV w B' v2 b) (hB : B ≤ w.heap.size) (hB' : B' ≤ w.heap.size) (hbig : a.vars.length + b.vars.length ≤ 1099511627776) :
    Calls Try.prog 75 #[v1, v2] w (RetT (greatT a b) w) := by
  obtain ⟨A, n, c, rfl, hr⟩ := h1
  obtain ⟨A', n', c', rfl, hr'⟩ := h2
  have hl := hr.len
  have hl' := hr'.len
  rw [hl, hl'] at hbig
  have Hl := Lib.hid hl
  have Hl' := Lib.hid hl'
  clear hl hl'
  have ⟨hbel0, hsz0, ha0, hb0, hz0⟩ := T3_facts a b A A' n c n' c' w
  have hr0 := (hr.more hB).below hbel0
  have hr0' := (hr'.more hB').below hbel0
  have hT0 : T3 a b A A' n c n' c' w = ((w.alloc (Obj.cells #[.bool a.never, .int .u8 a.c, .slice A n c] 37)).alloc (Obj.cells #[.bool b.never, .int .u8 b.c, .slice A' n' c'] 37)).alloc (Obj.cells #[.bool false, .int .u8 0, .slice none 0 0] 37) := rfl
  generalize T3 a b A A' n c n' c' w = w2 at hbel0 hsz0 ha0 hb0 hz0 hr0 hr0' hT0
  have HT0 := Lib.hid hT0
  clear hT0
  have a0 : w2.cell? ⟨w.heap.size, 0, none⟩ = some (.bool a.never) := ha0.cell 0
  have a1 : w2.cell? ⟨w.heap.size, 1, none⟩ = some (.int .u8 a.c) := ha0.cell 1
  have a2 : w2.cell? ⟨w.heap.size, 2, none⟩ = some (.slice A n c) := ha0.cell 2
  have b0 : w2.cell? ⟨w.heap.size + 1, 0, none⟩ = some (.bool b.never) := hb0.cell 0
  have b1 : w2.cell? ⟨w.heap.size + 1, 1, none⟩ = some (.int .u8 b.c) := hb0.cell 1
  have b2 : w2.cell? ⟨w.heap.size + 1, 2, none⟩ = some (.slice A' n' c') := hb0.cell 2
  have hc2 := both_any A n c a.vars A' n' c' b.vars w2 _ _ hr0 hr0' (by omega) (by omega) hbig
  have Hc2 := Lib.hid hc2
  clear hc2 hr hr' hr0 hr0'
  have z0 : w2.cell? ⟨w.heap.size + 1 + 1, 0, none⟩ = some (.bool false) := hz0.cell 0
  have z1 : w2.cell? ⟨w.heap.size + 1 + 1, 1, none⟩ = some (.int .u8 0) := hz0.cell 1
  have z2 : w2.cell? ⟨w.heap.size + 1 + 1, 2, none⟩ = some (.slice none 0 0) := hz0.cell 2
  have f0 := hz0.frozen 0
  have f1 := hz0.frozen 1
  have f2 := hz0.frozen 2
  have hle : w.heap.size ≤ w.heap.size + 1 + 1 := by omega
  have hm : (a.c < b.c ∧ max a.c b.c = b.c) ∨ (¬ a.c < b.c ∧ max a.c b.c = a.c) := by omega
  obtain ⟨C, hC⟩ : ∃ C, max a.c b.c = C := ⟨_, rfl⟩
  rw [hC] at hm
  have hg : greatT a b = if C = 3 then ⟨false, 3, []⟩ else ⟨false, C, bothGo a.vars b.vars []⟩ := by unfold greatT; rw [hC]
  rw [hg]
  clear hg hC
  rcases hm with ⟨h, e⟩ | ⟨h, e⟩
  · have hd : decide (a.c < b.c) = true := by simpa using h
    subst e
    clear h
    by_cases h3 : b.c = 3
    · rw [if_pos h3]
      have h3' : (b.c == 3) = true := by simp [h3]
      clear h3 Hc2
      have hbx := (T3_facts a b A A' n c n' c' w).1
      go_enter Try.func75, Try.ntmps75
      go_wp2_with fail
      have hb3 : Below w.heap.size w (((w.alloc (Obj.cells #[.bool a.never, .int .u8 a.c, .slice A n c] 37)).alloc (Obj.cells #[.bool b.never, .int .u8 b.c, .slice A' n' c'] 37)).alloc (Obj.cells #[.bool false, .int .u8 3, .slice none 0 0] 37)) :=
        (((Below.refl _ _).alloc (Nat.le_refl _) _).alloc (by simp) _).alloc (by simp; omega) _
      exact bodyPost_ret (v := .agg #[.bool false, .int .u8 3, .slice none 0 0]) (by simp [results, Try.results75, go_sem]) rfl ⟨none, 0, 0, rfl, RdI.nil, hb3⟩
    · rw [if_neg h3]
      have h3' : (b.c == 3) = false := by simp [h3]
      clear h3
      go_enter Try.func75, Try.ntmps75
      go_wp2_with fail
      rw [← HT0.out]
      refine Hc2.out.mono ?_
      rintro e w3 ⟨A3, n3, c3, rfl, hr3, hb3⟩
      have hz3 := hz0.below hb3 hz0.lt
      have hbel3 := hbel0.trans (hb3.mono hbel0.size)
      have z0 : w3.cell? ⟨w.heap.size + 1 + 1, 0, none⟩ = some (.bool false) := hz3.cell 0
      have z1 : w3.cell? ⟨w.heap.size + 1 + 1, 1, none⟩ = some (.int .u8 0) := hz3.cell 1
      have z2 : w3.cell? ⟨w.heap.size + 1 + 1, 2, none⟩ = some (.slice none 0 0) := hz3.cell 2
      have f0 := hz3.frozen 0
      have f1 := hz3.frozen 1
      have f2 := hz3.frozen 2
      clear hb3
      go_wp2_with fail
      have hs := hz3.set3 (.bool false) (.int .u8 b.c) (.slice A3 n3 c3)
      have hb3 := ((hbel3.setCell (p := ⟨w.heap.size + 1 + 1, 0, none⟩) hle (.bool false)).setCell (p := ⟨w.heap.size + 1 + 1, 1, none⟩) hle (.int .u8 b.c)).setCell (p := ⟨w.heap.size + 1 + 1, 2, none⟩) hle (.slice A3 n3 c3)
      have hr9 := (hr3.put3 hz3 (.bool false) (.int .u8 b.c) (.slice A3 n3 c3)).more (B' := (((w3.setCell ⟨w.heap.size + 1 + 1, 0, none⟩ (.bool false)).setCell ⟨w.heap.size + 1 + 1, 1, none⟩ (.int .u8 b.c)).setCell ⟨w.heap.size + 1 + 1, 2, none⟩ (.slice A3 n3 c3)).heap.size) (by simp)
      generalize (((w3.setCell ⟨w.heap.size + 1 + 1, 0, none⟩ (.bool false)).setCell ⟨w.heap.size + 1 + 1, 1, none⟩ (.int .u8 b.c)).setCell ⟨w.heap.size + 1 + 1, 2, none⟩ (.slice A3 n3 c3)) = W3 at hs hb3 hr9 ⊢
      have d0 : W3.cell? ⟨w.heap.size + 1 + 1, 0, none⟩ = some (.bool false) := hs.cell 0
      have d1 : W3.cell? ⟨w.heap.size + 1 + 1, 1, none⟩ = some (.int .u8 b.c) := hs.cell 1
      have d2 : W3.cell? ⟨w.heap.size + 1 + 1, 2, none⟩ = some (.slice A3 n3 c3) := hs.cell 2
      exact bodyPost_ret (v := .agg #[.bool false, .int .u8 b.c, .slice A3 n3 c3]) (by simp [results, Try.results75, go_sem, d0, d1, d2]) rfl ⟨_, _, _, rfl, hr9, hb3⟩
  · have hd : decide (a.c < b.c) = false := by simpa using h
    subst e
    clear h
    by_cases h3 : a.c = 3
    · rw [if_pos h3]
      have h3' : (a.c == 3) = true := by simp [h3]
      clear h3 Hc2
      have hbx := (T3_facts a b A A' n c n' c' w).1
      go_enter Try.func75, Try.ntmps75
      go_wp2_with fail
      have hb3 : Below w.heap.size w (((w.alloc (Obj.cells #[.bool a.never, .int .u8 a.c, .slice A n c] 37)).alloc (Obj.cells #[.bool b.never, .int .u8 b.c, .slice A' n' c'] 37)).alloc (Obj.cells #[.bool false, .int .u8 3, .slice none 0 0] 37)) :=
        (((Below.refl _ _).alloc (Nat.le_refl _) _).alloc (by simp) _).alloc (by simp; omega) _
      exact bodyPost_ret (v := .agg #[.bool false, .int .u8 3, .slice none 0 0]) (by simp [results, Try.results75, go_sem]) rfl ⟨none, 0, 0, rfl, RdI.nil, hb3⟩
    · rw [if_neg h3]
      have h3' : (a.c == 3) = false := by simp [h3]
      clear h3
      go_enter Try.func75, Try.ntmps75
      go_wp2_with fail
      rw [← HT0.out]
      refine Hc2.out.mono ?_
      rintro e w3 ⟨A3, n3, c3, rfl, hr3, hb3⟩
      have hz3 := hz0.below hb3 hz0.lt
      have hbel3 := hbel0.trans (hb3.mono hbel0.size)
      have z0 : w3.cell? ⟨w.heap.size + 1 + 1, 0, none⟩ = some (.bool false) := hz3.cell 0
      have z1 : w3.cell? ⟨w.heap.size + 1 + 1, 1, none⟩ = some (.int .u8 0) := hz3.cell 1
      have z2 : w3.cell? ⟨w.heap.size + 1 + 1, 2, none⟩ = some (.slice none 0 0) := hz3.cell 2
      have f0 := hz3.frozen 0
      have f1 := hz3.frozen 1
      have f2 := hz3.frozen 2
      clear hb3
      go_wp2_with fail
      have hs := hz3.set3 (.bool false) (.int .u8 a.c) (.slice A3 n3 c3)
      have hb3 := ((hbel3.setCell (p := ⟨w.heap.size + 1 + 1, 0, none⟩) hle (.bool false)).setCell (p := ⟨w.heap.size + 1 + 1, 1, none⟩) hle (.int .u8 a.c)).setCell (p := ⟨w.heap.size + 1 + 1, 2, none⟩) hle (.slice A3 n3 c3)
      have hr9 := (hr3.put3 hz3 (.bool false) (.int .u8 a.c) (.slice A3 n3 c3)).more (B' := (((w3.setCell ⟨w.heap.size + 1 + 1, 0, none⟩ (.bool false)).setCell ⟨w.heap.size + 1 + 1, 1, none⟩ (.int .u8 a.c)).setCell ⟨w.heap.size + 1 + 1, 2, none⟩ (.slice A3 n3 c3)).heap.size) (by simp)
      generalize (((w3.setCell ⟨w.heap.size + 1 + 1, 0, none⟩ (.bool false)).setCell ⟨w.heap.size + 1 + 1, 1, none⟩ (.int .u8 a.c)).setCell ⟨w.heap.size + 1 + 1, 2, none⟩ (.slice A3 n3 c3)) = W3 at hs hb3 hr9 ⊢
      have d0 : W3.cell? ⟨w.heap.size + 1 + 1, 0, none⟩ = some (.bool false) := hs.cell 0
      have d1 : W3.cell? ⟨w.heap.size + 1 + 1, 1, none⟩ = some (.int .u8 a.c) := hs.cell 1
      have d2 : W3.cell? ⟨w.heap.size + 1 + 1, 2, none⟩ = some (.slice A3 n3 c3) := hs.cell 2
      exact bodyPost_ret (v := .agg #[.bool false, .int .u8 a.c, .slice A3 n3 c3]) (by simp [results, Try.results75, go_sem, d0, d1, d2]) rfl ⟨_, _, _, rfl, hr9, hb3⟩

end Go.Proofs.Ytimlbpjdgnapoaa
