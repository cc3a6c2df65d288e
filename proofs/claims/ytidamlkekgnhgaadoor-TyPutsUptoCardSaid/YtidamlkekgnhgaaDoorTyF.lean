/- Contracts: ty.May, ty.Same, and the references' Is, May, Same. -/
import Derived.Test.YtidamlkekgnhgaaDoorTyE
namespace Go.Proofs.YtidamlkekgnhgaaDoor
set_option linter.unusedVariables false
set_option linter.unusedSimpArgs false
open Go.RowKit

theorem run_store_func {P : Program} {w : World} (a : Addr) (f : Fn) (xs ys : Array Value) (m : Mode) : (store a (.func f xs ys) m).run P w = stored P w a (.func f xs ys) m := run_store P w a _ m rfl
attribute [local go_sem] run_store_func
set_option maxRecDepth 100000 in
set_option maxHeartbeats 2000000 in
theorem tyMay_any (t : TyD) (x : Value) (w : World) (h : TyV w w.heap.size x t) :
    Calls Tryd.prog 19 #[x] w fun e w' => e = .returned (.int .i64 (mayTE t)) ∧ Below w.heap.size w w' := by
  obtain ⟨A, m, cp, rfl, hl⟩ := h
  have hbx := below_box (w := w) (Obj.cells #[.int .u8 t.k, .int .i64 t.n, .int .i64 t.v, .int .u8 t.c, .slice A m cp] 27)
  have hz := blk_new w #[.int .u8 t.k, .int .i64 t.n, .int .i64 t.v, .int .u8 t.c, .slice A m cp] 27
  have hL := (hl.below hbx).more hbx.size
  have z0 := hz.cell 0
  have z1 := hz.cell 1
  have z2 := hz.cell 2
  have z3 := hz.cell 3
  have z4 := hz.cell 4
  have hq := size_any t (.agg #[.int .u8 t.k, .int .i64 t.n, .int .i64 t.v, .int .u8 t.c, .slice A m cp]) _ ⟨A, m, cp, rfl, hL⟩
  obtain ⟨s, hs⟩ : ∃ s, sizeW t = s := ⟨_, rfl⟩
  rw [hs] at hq
  have Hq := Lib.hid hq
  have HL := Lib.hid hL
  have Hz := Lib.hid hz
  have Hbx := Lib.hid hbx
  have hE : mayTE t = if 300 < s then 3 else if mayT t then 0 else 2 := by unfold mayTE; rw [hs]
  have HE := Lib.hid hE
  clear hl hbx hz hL hq hs hE
  go_enter Tryd.func19, Tryd.ntmps19
  by_cases hbig : s > 300
  · have d0 : decide (s > 300) = true := by simpa using hbig
    have HR : Hid (3 = mayTE t) := Lib.hid (by rw [HE.out, if_pos (by omega)])
    clear hbig
    go_wp2_with fail
    refine Hq.out.mono ?_; rintro e w1 ⟨rfl, hb1⟩
    have hb2 := Hbx.out.trans (hb1.mono Hbx.out.size)
    clear z0 z1 z2 z3 z4 hb1
    go_wp2_with fail
    go_ret
    exact ⟨ret_int HR.out, hb2⟩
  · have d0 : decide (s > 300) = false := by simpa using hbig
    have hE2 : mayTE t = if mayT t then 0 else 2 := by rw [HE.out, if_neg (by omega)]
    have HE2 := Lib.hid hE2
    clear hbig hE2
    go_wp2_with fail
    refine Hq.out.mono ?_; rintro e w1 ⟨rfl, hb1⟩
    have hz1 := Hz.out.below hb1 Hz.out.lt
    have hL1 := (HL.out.below hb1).more hb1.size
    have hb2 := Hbx.out.trans (hb1.mono Hbx.out.size)
    clear z0 z1 z2 z3 z4 hb1
    have y0 := hz1.cell 0
    have y1 := hz1.cell 1
    have y2 := hz1.cell 2
    have y3 := hz1.cell 3
    have y4 := hz1.cell 4
    have hf := blk_new w1 #[.nilFunc] 77
    have f0 : (w1.alloc (Obj.cells #[.nilFunc] 77)).cell? ⟨w1.heap.size, 0, none⟩ = some .nilFunc := hf.cell 0
    have f1 : (w1.alloc (Obj.cells #[.nilFunc] 77)).frozen? ⟨w1.heap.size, 0, none⟩ = false := hf.frozen 0
    have hbS := below_box (w := w1) (Obj.cells #[.func (.func 43) #[] #[.pointer (some ⟨w1.heap.size, 0, none⟩)]] 77)
    have hgb := blk_new w1 #[.func (.func 43) #[] #[.pointer (some ⟨w1.heap.size, 0, none⟩)]] 77
    have hgc : MayCell (w1.alloc (Obj.cells #[.func (.func 43) #[] #[.pointer (some ⟨w1.heap.size, 0, none⟩)]] 77)) w1.heap.size := hgb.cell 0
    have g0 : (w1.alloc (Obj.cells #[.func (.func 43) #[] #[.pointer (some ⟨w1.heap.size, 0, none⟩)]] 77)).cell? ⟨w1.heap.size, 0, none⟩ = some (.func (.func 43) #[] #[.pointer (some ⟨w1.heap.size, 0, none⟩)]) := hgc
    have hz3 := hz1.below hbS hz1.lt
    have hL3 := (hL1.below hbS).more hbS.size
    have q0 := hz3.cell 0
    have q1 := hz3.cell 1
    have q2 := hz3.cell 2
    have q3 := hz3.cell 3
    have q4 := hz3.cell 4
    have hb4 := hb2.trans (hbS.mono hb2.size)
    have hq := may1_go w1.heap.size (nodes t) t (Nat.le_refl _) A m cp _ hL3 hgc
    obtain ⟨M, hM⟩ : ∃ M, mayT t = M := ⟨_, rfl⟩
    rw [hM] at hq HE2
    have Hq2 := Lib.hid hq
    have Hb4 := Lib.hid hb4
    clear hq hgc hz3 hL3 hb4 hM hbS hz1 hL1 hb2 hf hgb Hq HL Hz Hbx HE
    cases M with
    | true =>
      have HR : Hid (0 = mayTE t) := Lib.hid (by rw [HE2.out]; rfl)
      go_wp2_with fail
      refine Hq2.out.mono ?_; rintro e w3 ⟨rfl, hb5⟩
      have hb6 := Hb4.out.trans (hb5.mono Hb4.out.size)
      clear f0 f1 g0 q0 q1 q2 q3 q4 y0 y1 y2 y3 y4 hb5 Hq2
      go_wp2_with fail
      go_ret
      exact ⟨ret_int HR.out, hb6⟩
    | false =>
      have HR : Hid (2 = mayTE t) := Lib.hid (by rw [HE2.out]; rfl)
      go_wp2_with fail
      refine Hq2.out.mono ?_; rintro e w3 ⟨rfl, hb5⟩
      have hb6 := Hb4.out.trans (hb5.mono Hb4.out.size)
      clear f0 f1 g0 q0 q1 q2 q3 q4 y0 y1 y2 y3 y4 hb5 Hq2
      go_wp2_with fail
      go_ret
      exact ⟨ret_int HR.out, hb6⟩

end Go.Proofs.YtidamlkekgnhgaaDoor
