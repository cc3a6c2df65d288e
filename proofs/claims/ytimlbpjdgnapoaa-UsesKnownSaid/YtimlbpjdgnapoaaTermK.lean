/- The contract of term.Scale. -/
import Derived.Test.YtimlbpjdgnapoaaTermJ
namespace Go.Proofs.Ytimlbpjdgnapoaa
set_option linter.unusedVariables false
set_option linter.unusedSimpArgs false
open Go.RowKit

/-- the world in which Scale's body begins -/
def W0 (c v : Int) (t : TermD) (A : Option Addr) (n cp : Nat) (w : World) : World :=
  ((w.alloc (Obj.cells #[.int .i64 v, .int .u8 c] 46)).alloc (Obj.cells #[.bool t.never, .int .u8 t.c, .slice A n cp] 37)).alloc (Obj.cells #[.bool false, .int .u8 0, .slice none 0 0] 37)
theorem W0_facts (c v : Int) (t : TermD) (A : Option Addr) (n cp : Nat) (w : World) : Below w.heap.size w (W0 c v t A n cp w) ∧ (W0 c v t A n cp w).heap.size = w.heap.size + 3 ∧
    Blk (W0 c v t A n cp w) w.heap.size 46 #[.int .i64 v, .int .u8 c] ∧ Blk (W0 c v t A n cp w) (w.heap.size + 1) 37 #[.bool t.never, .int .u8 t.c, .slice A n cp] ∧
    Blk (W0 c v t A n cp w) (w.heap.size + 1 + 1) 37 #[.bool false, .int .u8 0, .slice none 0 0] := by
  refine ⟨(((Below.refl _ _).alloc (Nat.le_refl _) _).alloc (by simp) _).alloc (by simp; omega) _, by simp [W0], ((blk_new _ _ _).alloc _).alloc _, ?_, ?_⟩
  · have h := (blk_new (w.alloc (Obj.cells #[.int .i64 v, .int .u8 c] 46)) #[.bool t.never, .int .u8 t.c, .slice A n cp] 37).alloc (Obj.cells #[.bool false, .int .u8 0, .slice none 0 0] 37)
    rw [World.size_alloc] at h
    exact h
  · have h := blk_new ((w.alloc (Obj.cells #[.int .i64 v, .int .u8 c] 46)).alloc (Obj.cells #[.bool t.never, .int .u8 t.c, .slice A n cp] 37)) #[.bool false, .int .u8 0, .slice none 0 0] 37
    rw [World.size_alloc, World.size_alloc] at h
    exact h

set_option maxHeartbeats 1000000 in
theorem scaleT_no (c v : Int) (tv : Value) (t : TermD) (w : World) (B : Nat) (hv : TermV w B tv t) (hB : B ≤ w.heap.size) (hno : (isB c v && mayB t) = false) :
    Calls Try.prog 59 #[.agg #[.int .i64 v, .int .u8 c], tv] w (RetTE zeroT 2 w) := by
  obtain ⟨A, n, cp, rfl, hr⟩ := hv
  obtain ⟨hb0, hs0, hm0, ht0, hz0⟩ := W0_facts c v t A n cp w
  have Hs0 := Lib.hid hs0
  have hq := is_any c v (W0 c v t A n cp w)
  have Hq := Lib.hid hq
  clear hq
  cases h1 : isB c v
  · have He := Lib.hid (isE_no h1)
    clear h1 hno
    go_enter Try.func59, Try.ntmps59
    go_wp2_with fail
    refine Hq.out.mono ?_; rintro e w1 ⟨rfl, hb1⟩
    rw [He.out]
    have hz1 := hz0.below hb1 (by omega)
    have hbel := hb0.trans (hb1.mono (by omega))
    have z0 : w1.cell? ⟨w.heap.size + 1 + 1, 0, none⟩ = some (.bool false) := hz1.cell 0
    have z1 : w1.cell? ⟨w.heap.size + 1 + 1, 1, none⟩ = some (.int .u8 0) := hz1.cell 1
    have z2 : w1.cell? ⟨w.heap.size + 1 + 1, 2, none⟩ = some (.slice none 0 0) := hz1.cell 2
    have f0 := hz1.frozen 0
    have f1 := hz1.frozen 1
    have f2 := hz1.frozen 2
    clear hs0
    go_wp2_with fail
    have hs := hz1.set3 (.bool false) (.int .u8 0) (.slice none 0 0)
    have hb3 := ((hbel.setCell (p := ⟨w.heap.size + 1 + 1, 0, none⟩) (by show w.heap.size ≤ w.heap.size + 1 + 1; omega) (.bool false)).setCell (p := ⟨w.heap.size + 1 + 1, 1, none⟩) (by show w.heap.size ≤ w.heap.size + 1 + 1; omega) (.int .u8 0)).setCell (p := ⟨w.heap.size + 1 + 1, 2, none⟩) (by show w.heap.size ≤ w.heap.size + 1 + 1; omega) (.slice none 0 0)
    generalize (((w1.setCell ⟨w.heap.size + 1 + 1, 0, none⟩ (.bool false)).setCell ⟨w.heap.size + 1 + 1, 1, none⟩ (.int .u8 0)).setCell ⟨w.heap.size + 1 + 1, 2, none⟩ (.slice none 0 0)) = W3 at hs hb3 ⊢
    have d0 : W3.cell? ⟨w.heap.size + 1 + 1, 0, none⟩ = some (.bool false) := hs.cell 0
    have d1 : W3.cell? ⟨w.heap.size + 1 + 1, 1, none⟩ = some (.int .u8 0) := hs.cell 1
    have d2 : W3.cell? ⟨w.heap.size + 1 + 1, 2, none⟩ = some (.slice none 0 0) := hs.cell 2
    exact bodyPost_ret (v := .tuple #[.agg #[.bool false, .int .u8 0, .slice none 0 0], .int .i64 2]) (by simp [results, Try.results59, go_sem, d0, d1, d2]) rfl ⟨none, 0, 0, rfl, RdI.nil, hb3⟩
  · have h2 : mayB t = false := by rw [h1] at hno; simpa using hno
    have He := Lib.hid (isE_yes h1)
    have He2 := Lib.hid (mayE_no h2)
    clear h1 h2 hno
    go_enter Try.func59, Try.ntmps59
    go_wp2_with fail
    refine Hq.out.mono ?_; rintro e w1 ⟨rfl, hb1⟩
    rw [He.out]
    have hz1 := hz0.below hb1 (by omega)
    have ht1 := ht0.below hb1 (by omega)
    have hbel := hb0.trans (hb1.mono (by omega))
    have hr1 := (hr.more hB).below hbel
    have hg1 : w.heap.size + 3 ≤ w1.heap.size := by have := hb1.size; omega
    have hq2 := may_any (.agg #[.bool t.never, .int .u8 t.c, .slice A n cp]) t w1 w.heap.size ⟨A, n, cp, rfl, hr1⟩ (by omega)
    have Hq2 := Lib.hid hq2
    have x0 : w1.cell? ⟨w.heap.size + 1, 0, none⟩ = some (.bool t.never) := ht1.cell 0
    have x1 : w1.cell? ⟨w.heap.size + 1, 1, none⟩ = some (.int .u8 t.c) := ht1.cell 1
    have x2 : w1.cell? ⟨w.heap.size + 1, 2, none⟩ = some (.slice A n cp) := ht1.cell 2
    clear hs0 hq2
    go_wp2_with fail
    refine Hq2.out.mono ?_; rintro e w2 ⟨rfl, hb2⟩
    rw [He2.out]
    have hz2 := hz1.below hb2 (by omega)
    have hbel2 := hbel.trans (hb2.mono (by omega))
    have z0 : w2.cell? ⟨w.heap.size + 1 + 1, 0, none⟩ = some (.bool false) := hz2.cell 0
    have z1 : w2.cell? ⟨w.heap.size + 1 + 1, 1, none⟩ = some (.int .u8 0) := hz2.cell 1
    have z2 : w2.cell? ⟨w.heap.size + 1 + 1, 2, none⟩ = some (.slice none 0 0) := hz2.cell 2
    have f0 := hz2.frozen 0
    have f1 := hz2.frozen 1
    have f2 := hz2.frozen 2
    go_wp2_with fail
    have hs := hz2.set3 (.bool false) (.int .u8 0) (.slice none 0 0)
    have hb3 := ((hbel2.setCell (p := ⟨w.heap.size + 1 + 1, 0, none⟩) (by show w.heap.size ≤ w.heap.size + 1 + 1; omega) (.bool false)).setCell (p := ⟨w.heap.size + 1 + 1, 1, none⟩) (by show w.heap.size ≤ w.heap.size + 1 + 1; omega) (.int .u8 0)).setCell (p := ⟨w.heap.size + 1 + 1, 2, none⟩) (by show w.heap.size ≤ w.heap.size + 1 + 1; omega) (.slice none 0 0)
    generalize (((w2.setCell ⟨w.heap.size + 1 + 1, 0, none⟩ (.bool false)).setCell ⟨w.heap.size + 1 + 1, 1, none⟩ (.int .u8 0)).setCell ⟨w.heap.size + 1 + 1, 2, none⟩ (.slice none 0 0)) = W3 at hs hb3 ⊢
    have d0 : W3.cell? ⟨w.heap.size + 1 + 1, 0, none⟩ = some (.bool false) := hs.cell 0
    have d1 : W3.cell? ⟨w.heap.size + 1 + 1, 1, none⟩ = some (.int .u8 0) := hs.cell 1
    have d2 : W3.cell? ⟨w.heap.size + 1 + 1, 2, none⟩ = some (.slice none 0 0) := hs.cell 2
    exact bodyPost_ret (v := .tuple #[.agg #[.bool false, .int .u8 0, .slice none 0 0], .int .i64 2]) (by simp [results, Try.results59, go_sem, d0, d1, d2]) rfl ⟨none, 0, 0, rfl, RdI.nil, hb3⟩

set_option maxRecDepth 100000 in
set_option maxHeartbeats 1000000 in
theorem scaleT_yes (c v : Int) (tv : Value) (t : TermD) (w : World) (B : Nat) (hv : TermV w B tv t) (hB : B ≤ w.heap.size) (h1 : isB c v = true) (h2 : mayB t = true) (hbig : t.vars.length ≤ 1099511627776) :
    Calls Try.prog 59 #[.agg #[.int .i64 v, .int .u8 c], tv] w (RetTE (scaleT c v t) 0 w) := by
  have hmx := @run_max2 Try.prog
  obtain ⟨A, n, cp, rfl, hr⟩ := hv
  obtain ⟨hb0, hs0, hm0, ht0, hz0⟩ := W0_facts c v t A n cp w
  have Hs0 := Lib.hid hs0
  have hq := is_any c v (W0 c v t A n cp w)
  have Hq := Lib.hid hq
  have hlv := hr.len
  have Hlv := Lib.hid hlv
  have Hbig := Lib.hid hbig
  have He := Lib.hid (isE_yes h1)
  have He2 := Lib.hid (mayE_yes h2)
  clear hq h1 h2 hlv hbig
  go_enter Try.func59, Try.ntmps59
  go_wp2_with fail
  refine Hq.out.mono ?_; rintro e w1 ⟨rfl, hb1⟩
  rw [He.out]
  have hm1 := hm0.below hb1 (by omega)
  have hz1 := hz0.below hb1 (by omega)
  have ht1 := ht0.below hb1 (by omega)
  have hbel := hb0.trans (hb1.mono (by omega))
  have hr1 := (hr.more hB).below hbel
  have hg1 : w.heap.size + 3 ≤ w1.heap.size := by have := hb1.size; omega
  have hq2 := may_any (.agg #[.bool t.never, .int .u8 t.c, .slice A n cp]) t w1 w.heap.size ⟨A, n, cp, rfl, hr1⟩ (by omega)
  have Hq2 := Lib.hid hq2
  have x0 : w1.cell? ⟨w.heap.size + 1, 0, none⟩ = some (.bool t.never) := ht1.cell 0
  have x1 : w1.cell? ⟨w.heap.size + 1, 1, none⟩ = some (.int .u8 t.c) := ht1.cell 1
  have x2 : w1.cell? ⟨w.heap.size + 1, 2, none⟩ = some (.slice A n cp) := ht1.cell 2
  clear hs0 hq2
  go_wp2_with fail
  refine Hq2.out.mono ?_; rintro e w2 ⟨rfl, hb2⟩
  rw [He2.out]
  have hm2 := hm1.below hb2 (by omega)
  have hz2 := hz1.below hb2 (by omega)
  have ht2 := ht1.below hb2 (by omega)
  have hbel2 := hbel.trans (hb2.mono (by omega))
  have hr2 := hr1.below (hb2.mono (by omega))
  have hg2 : w.heap.size + 3 ≤ w2.heap.size := by have := hb2.size; omega
  clear x0 x1 x2 hb0 hm0 ht0 hz0 hb1 hm1 hz1 ht1 hbel hr hr1 Hq Hq2 He He2 hb2
  have z0 : w2.cell? ⟨w.heap.size + 1 + 1, 0, none⟩ = some (.bool false) := hz2.cell 0
  have z1 : w2.cell? ⟨w.heap.size + 1 + 1, 1, none⟩ = some (.int .u8 0) := hz2.cell 1
  have z2 : w2.cell? ⟨w.heap.size + 1 + 1, 2, none⟩ = some (.slice none 0 0) := hz2.cell 2
  have f0 := hz2.frozen 0
  have f1 := hz2.frozen 1
  have f2 := hz2.frozen 2
  have m0 : w2.cell? ⟨w.heap.size, 0, none⟩ = some (.int .i64 v) := hm2.cell 0
  have m1 : w2.cell? ⟨w.heap.size, 1, none⟩ = some (.int .u8 c) := hm2.cell 1
  cases htn : t.never
  · rw [htn] at ht2
    have y0 : w2.cell? ⟨w.heap.size + 1, 0, none⟩ = some (.bool false) := ht2.cell 0
    have y1 : w2.cell? ⟨w.heap.size + 1, 1, none⟩ = some (.int .u8 t.c) := ht2.cell 1
    have y2 : w2.cell? ⟨w.heap.size + 1, 2, none⟩ = some (.slice A n cp) := ht2.cell 2
    by_cases hc : c = 0
    · have hcb : (c == 0) = true := by simp [hc]
      have hj : scaleT c v t = cleanT t.c (t.vars ++ [v]) := by unfold scaleT; rw [htn, if_neg (by simp), if_pos hc]
      have Hj := Lib.hid hj
      have Hl8 : Hid (n * 8 ≤ 140737488355328) := by show n * 8 ≤ 140737488355328; have := Hbig.out; rw [Hlv.out] at this; omega
      have Hl9 : Hid ((n + 1) * 8 ≤ 140737488355328) := by show (n + 1) * 8 ≤ 140737488355328; have := Hbig.out; rw [Hlv.out] at this; omega
      have Hn63 : Hid (n + 1 ≤ maxLen) := by show n + 1 ≤ 9223372036854775807; have := Hbig.out; rw [Hlv.out] at this; omega
      obtain ⟨i0, hi0, hi1, hi2, hi3⟩ := info_parts intInfo
      have hnb : w.heap.size + 1 ≠ w.heap.size + 1 + 1 := by omega
      have hnb0 : w.heap.size ≠ w.heap.size + 1 + 1 := by omega
      have hl1 : w.heap.size + 1 < w2.heap.size := by omega
      have hl0 : w.heap.size < w2.heap.size := by omega
      have hx : ∀ w', Below w2.heap.size w2 w' → w'.cell? ⟨w.heap.size + 1, 1, none⟩ = some (.int .u8 t.c) ∧ w'.cell? ⟨w.heap.size + 1, 2, none⟩ = some (.slice A n cp) ∧ w'.cell? ⟨w.heap.size, 0, none⟩ = some (.int .i64 v) :=
        fun w' hb => ⟨(hb.cell (p := ⟨w.heap.size + 1, 1, none⟩) hl1).trans y1, (hb.cell (p := ⟨w.heap.size + 1, 2, none⟩) hl1).trans y2, (hb.cell (p := ⟨w.heap.size, 0, none⟩) hl0).trans m0⟩
      have Hx := Lib.hid hx
      have Hr2 := Lib.hid hr2
      clear hj htn hr2 hx
      go_wp2_with fail
      go_region_held3 (fun w' => w'.cell? ⟨w.heap.size + 1, 1, none⟩ = some (.int .u8 t.c) ∧ w'.cell? ⟨w.heap.size + 1, 2, none⟩ = some (.slice A n cp) ∧ w'.cell? ⟨w.heap.size, 0, none⟩ = some (.int .i64 v))
        (first | (go_keep; done) | (refine ⟨?_, ?_, ?_⟩ <;> (go_keep; done)) | exact Hx.out _ (Below.refl _ _).drew | exact Hx.out _ hbx | exact Hx.out _ ((Below.refl _ _).drew.alloc (Nat.le_refl _) _) | exact Hx.out _ (hbx.alloc hbx.size _) | exact ⟨(set3_other _ _ hnb _ _ _).trans (Hx.out _ hbx).1, (set3_other _ _ hnb _ _ _).trans (Hx.out _ hbx).2.1, (set3_other _ _ hnb0 _ _ _).trans (Hx.out _ hbx).2.2⟩)
        (first
          | (go_at_call 67; refine (cloneI_any A n cp t.vars w2.drew w.heap.size (Hr2.out.keep (w' := w2.drew) fun _ _ => rfl) Hl8.out).mono ?_; rintro e w3 ⟨A3, c3, rfl, hown3, hb3⟩; have hbx : Below w2.heap.size w2 w3 := ((Below.refl _ _).drew).trans hb3)
          | (go_at_call 67; refine (cloneI_any A n cp t.vars (w2.drew.alloc (Obj.cells #[.int .i64 v] 3)) w.heap.size (Hr2.out.keep (w' := w2.drew.alloc (Obj.cells #[.int .i64 v] 3)) fun p hp => ((Below.refl w2.heap.size w2).drew.alloc (Nat.le_refl _) _).cell (by omega)) Hl8.out).mono ?_; rintro e w3 ⟨A3, c3, rfl, hown3, hb3⟩; have hbx : Below w2.heap.size w2 w3 := ((Below.refl w2.heap.size w2).drew.alloc (Nat.le_refl _) _).trans (hb3.mono (by simp)))
          | (refine step_append_rd (o := ⟨some 40, _, _, _, _, _⟩) _ (by rfl) (.tmp 36) (.tmp 39) 35 (by rfl) w2.heap.size 3 i0 _ 1 8 Try.underlying35 hi0 hi1 hi2 hi3 rfl (by omega) (.slice A3 n c3) n (t.vars.map (Value.int .i64)) (by rfl) (hown3.alloc _) (w3.heap.size + 1) (some ⟨w3.heap.size, 0, none⟩) 1 1 [.int .i64 v] (by rfl) (rd_new1 _ _ _) (by intro u hu; simp at hu; subst hu; rfl) Hn63.out Hl9.out (by have := hbx.size; simp; omega) ?_; intro v4 w4 ho4 hg4 hat4;
              have hbx := (hbx.alloc hbx.size (Obj.cells #[.int .i64 v] 3)).grown hg4 (by have := hbx.size; simp; omega) (fun j hj => (hown3.lt j hj).1);
              obtain ⟨A4, c4, rfl, hr4⟩ := own_slice ho4)
          | (refine step_append_rd (o := ⟨some 40, _, _, _, _, _⟩) _ (by rfl) (.tmp 36) (.tmp 39) 35 (by rfl) (w2.drew.alloc (Obj.cells #[.int .i64 v] 3)).heap.size 3 i0 _ 1 8 Try.underlying35 hi0 hi1 hi2 hi3 rfl (by omega) (.slice A3 n c3) n (t.vars.map (Value.int .i64)) (by rfl) hown3 (w2.heap.size + 1) (some ⟨w2.heap.size, 0, none⟩) 1 1 [.int .i64 v] (by rfl) ((rd_new1 w2.drew (.int .i64 v) 3).keep fun p hp => hb3.cell (by have hp' : p.block < w2.heap.size + 1 := hp; simpa using hp')) (by intro u hu; simp at hu; subst hu; rfl) Hn63.out Hl9.out hb3.size ?_; intro v4 w4 ho4 hg4 hat4;
              have hbx := hbx.grown hg4 hbx.size (fun j hj => by have := (hown3.lt j hj).1; simp at this; omega);
              obtain ⟨A4, c4, rfl, hr4⟩ := own_slice ho4)
          | (go_at_call 73; refine (clean_any t.c A4 (n + 1) c4 (t.vars ++ [v]) w4 w4.heap.size hr4 (Nat.le_refl _) Hl9.out).mono ?_; rintro e w5 ⟨A7, n7, c7, rfl, hr7, hb7⟩;
              have hbx := hbx.trans (hb7.mono hbx.size); have hz5 := hz2.below hbx hz2.lt; generalize cleanT t.c (t.vars ++ [v]) = T at Hj hr7;
              have g0 : w5.cell? ⟨w.heap.size + 1 + 1, 0, none⟩ = some (.bool false) := hz5.cell 0; have g1 : w5.cell? ⟨w.heap.size + 1 + 1, 1, none⟩ = some (.int .u8 0) := hz5.cell 1; have g2 : w5.cell? ⟨w.heap.size + 1 + 1, 2, none⟩ = some (.slice none 0 0) := hz5.cell 2;
              have p0 := hz5.frozen 0; have p1 := hz5.frozen 1; have p2 := hz5.frozen 2))
      all_goals
        have hb5 := hbel2.trans (hbx.mono (by omega))
        have Hr7 := Lib.hid hr7
        go_wp2_with fail
        have hs := hz5.set3 (.bool T.never) (.int .u8 T.c) (.slice A7 n7 c7)
        have hb3 := ((hb5.setCell (p := ⟨w.heap.size + 1 + 1, 0, none⟩) (by show w.heap.size ≤ w.heap.size + 1 + 1; omega) (.bool T.never)).setCell (p := ⟨w.heap.size + 1 + 1, 1, none⟩) (by show w.heap.size ≤ w.heap.size + 1 + 1; omega) (.int .u8 T.c)).setCell (p := ⟨w.heap.size + 1 + 1, 2, none⟩) (by show w.heap.size ≤ w.heap.size + 1 + 1; omega) (.slice A7 n7 c7)
        have hr8 := Hr7.out.put3 hz5 (.bool T.never) (.int .u8 T.c) (.slice A7 n7 c7)
        have hr9 := hr8.more (B' := (((w5.setCell ⟨w.heap.size + 1 + 1, 0, none⟩ (.bool T.never)).setCell ⟨w.heap.size + 1 + 1, 1, none⟩ (.int .u8 T.c)).setCell ⟨w.heap.size + 1 + 1, 2, none⟩ (.slice A7 n7 c7)).heap.size) (by simp)
        generalize (((w5.setCell ⟨w.heap.size + 1 + 1, 0, none⟩ (.bool T.never)).setCell ⟨w.heap.size + 1 + 1, 1, none⟩ (.int .u8 T.c)).setCell ⟨w.heap.size + 1 + 1, 2, none⟩ (.slice A7 n7 c7)) = W3 at hs hb3 hr9 ⊢
        have d0 : W3.cell? ⟨w.heap.size + 1 + 1, 0, none⟩ = some (.bool T.never) := hs.cell 0
        have d1 : W3.cell? ⟨w.heap.size + 1 + 1, 1, none⟩ = some (.int .u8 T.c) := hs.cell 1
        have d2 : W3.cell? ⟨w.heap.size + 1 + 1, 2, none⟩ = some (.slice A7 n7 c7) := hs.cell 2
        exact bodyPost_ret (v := .tuple #[.agg #[.bool T.never, .int .u8 T.c, .slice A7 n7 c7], .int .i64 0]) (by simp [results, Try.results59, go_sem, d0, d1, d2]) rfl (by rw [Hj.out]; exact ⟨A7, n7, c7, rfl, hr9, hb3⟩)
    · have hcb : (c == 0) = false := by simp [hc]
      have hj : scaleT c v t = cleanT (max c t.c) t.vars := by unfold scaleT; rw [htn, if_neg (by simp), if_neg hc]
      have Hj := Lib.hid hj
      clear hj htn
      have Hl8 : Hid (n * 8 ≤ 140737488355328) := by show n * 8 ≤ 140737488355328; have := Hbig.out; rw [Hlv.out] at this; omega
      have Hr2 := Lib.hid hr2
      clear hr2
      go_wp2_with fail
      refine (clean_any (max c t.c) A n cp t.vars w2 w.heap.size Hr2.out (by omega) Hl8.out).mono ?_
      rintro e w5 ⟨A7, n7, c7, rfl, hr7, hb7⟩
      have hz5 := hz2.below hb7 hz2.lt
      have hb5 := hbel2.trans (hb7.mono (by omega))
      generalize cleanT (max c t.c) t.vars = T at Hj hr7
      have g0 : w5.cell? ⟨w.heap.size + 1 + 1, 0, none⟩ = some (.bool false) := hz5.cell 0
      have g1 : w5.cell? ⟨w.heap.size + 1 + 1, 1, none⟩ = some (.int .u8 0) := hz5.cell 1
      have g2 : w5.cell? ⟨w.heap.size + 1 + 1, 2, none⟩ = some (.slice none 0 0) := hz5.cell 2
      have p0 := hz5.frozen 0
      have p1 := hz5.frozen 1
      have p2 := hz5.frozen 2
      have Hr7 := Lib.hid hr7
      clear hr7 hz2 hbel2 hb7 Hr2 f0 f1 f2 z0 z1 z2 y0 y1 y2 m0 m1
      go_wp2_with fail
      have hs := hz5.set3 (.bool T.never) (.int .u8 T.c) (.slice A7 n7 c7)
      have hb3 := ((hb5.setCell (p := ⟨w.heap.size + 1 + 1, 0, none⟩) (by show w.heap.size ≤ w.heap.size + 1 + 1; omega) (.bool T.never)).setCell (p := ⟨w.heap.size + 1 + 1, 1, none⟩) (by show w.heap.size ≤ w.heap.size + 1 + 1; omega) (.int .u8 T.c)).setCell (p := ⟨w.heap.size + 1 + 1, 2, none⟩) (by show w.heap.size ≤ w.heap.size + 1 + 1; omega) (.slice A7 n7 c7)
      have hr8 := Hr7.out.put3 hz5 (.bool T.never) (.int .u8 T.c) (.slice A7 n7 c7)
      have hr9 := hr8.more (B' := (((w5.setCell ⟨w.heap.size + 1 + 1, 0, none⟩ (.bool T.never)).setCell ⟨w.heap.size + 1 + 1, 1, none⟩ (.int .u8 T.c)).setCell ⟨w.heap.size + 1 + 1, 2, none⟩ (.slice A7 n7 c7)).heap.size) (by simp)
      generalize (((w5.setCell ⟨w.heap.size + 1 + 1, 0, none⟩ (.bool T.never)).setCell ⟨w.heap.size + 1 + 1, 1, none⟩ (.int .u8 T.c)).setCell ⟨w.heap.size + 1 + 1, 2, none⟩ (.slice A7 n7 c7)) = W3 at hs hb3 hr9 ⊢
      have d0 : W3.cell? ⟨w.heap.size + 1 + 1, 0, none⟩ = some (.bool T.never) := hs.cell 0
      have d1 : W3.cell? ⟨w.heap.size + 1 + 1, 1, none⟩ = some (.int .u8 T.c) := hs.cell 1
      have d2 : W3.cell? ⟨w.heap.size + 1 + 1, 2, none⟩ = some (.slice A7 n7 c7) := hs.cell 2
      exact bodyPost_ret (v := .tuple #[.agg #[.bool T.never, .int .u8 T.c, .slice A7 n7 c7], .int .i64 0]) (by simp [results, Try.results59, go_sem, d0, d1, d2]) rfl (by rw [Hj.out]; exact ⟨A7, n7, c7, rfl, hr9, hb3⟩)
  · rw [htn] at ht2
    have y0 : w2.cell? ⟨w.heap.size + 1, 0, none⟩ = some (.bool true) := ht2.cell 0
    have y1 : w2.cell? ⟨w.heap.size + 1, 1, none⟩ = some (.int .u8 t.c) := ht2.cell 1
    have y2 : w2.cell? ⟨w.heap.size + 1, 2, none⟩ = some (.slice A n cp) := ht2.cell 2
    have hj : scaleT c v t = ⟨true, t.c, t.vars⟩ := by unfold scaleT; rw [if_pos htn]; cases t; simp at htn; subst htn; rfl
    have Hj := Lib.hid hj
    clear hj htn
    go_wp2_with fail
    have hs := hz2.set3 (.bool true) (.int .u8 t.c) (.slice A n cp)
    have hb3 := ((hbel2.setCell (p := ⟨w.heap.size + 1 + 1, 0, none⟩) (by show w.heap.size ≤ w.heap.size + 1 + 1; omega) (.bool true)).setCell (p := ⟨w.heap.size + 1 + 1, 1, none⟩) (by show w.heap.size ≤ w.heap.size + 1 + 1; omega) (.int .u8 t.c)).setCell (p := ⟨w.heap.size + 1 + 1, 2, none⟩) (by show w.heap.size ≤ w.heap.size + 1 + 1; omega) (.slice A n cp)
    have hr8 := (hr2.more (B' := w2.heap.size) (by omega)).put3 hz2 (.bool true) (.int .u8 t.c) (.slice A n cp)
    have hr9 := hr8.more (B' := (((w2.setCell ⟨w.heap.size + 1 + 1, 0, none⟩ (.bool true)).setCell ⟨w.heap.size + 1 + 1, 1, none⟩ (.int .u8 t.c)).setCell ⟨w.heap.size + 1 + 1, 2, none⟩ (.slice A n cp)).heap.size) (by simp)
    generalize (((w2.setCell ⟨w.heap.size + 1 + 1, 0, none⟩ (.bool true)).setCell ⟨w.heap.size + 1 + 1, 1, none⟩ (.int .u8 t.c)).setCell ⟨w.heap.size + 1 + 1, 2, none⟩ (.slice A n cp)) = W3 at hs hb3 hr9 ⊢
    have d0 : W3.cell? ⟨w.heap.size + 1 + 1, 0, none⟩ = some (.bool true) := hs.cell 0
    have d1 : W3.cell? ⟨w.heap.size + 1 + 1, 1, none⟩ = some (.int .u8 t.c) := hs.cell 1
    have d2 : W3.cell? ⟨w.heap.size + 1 + 1, 2, none⟩ = some (.slice A n cp) := hs.cell 2
    exact bodyPost_ret (v := .tuple #[.agg #[.bool true, .int .u8 t.c, .slice A n cp], .int .i64 0]) (by simp [results, Try.results59, go_sem, d0, d1, d2]) rfl (by rw [Hj.out]; exact ⟨A, n, cp, rfl, hr9, hb3⟩)

end Go.Proofs.Ytimlbpjdgnapoaa
