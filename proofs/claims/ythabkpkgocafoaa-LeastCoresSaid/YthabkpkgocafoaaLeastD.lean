/- The contract of (*least.solver).raise where it raises. -/
import Derived.Test.YthabkpkgocafoaaLeastC
import Derived.Deep.RegionHeld3
namespace Go.Proofs.Ythabkpkgocafoaa
set_option linter.unusedVariables false
set_option linter.unusedSimpArgs false
open Go.RowKit Go.Conc

/-- a block whose first cells are the integers xs -/
def RowC (w : World) (g : Nat) (t : TypeId) (k : IntKind) (xs : List Int) : Prop :=
  ∃ cs : Array Value, Blk w g t cs ∧ xs.length ≤ cs.size ∧ ∀ (i : Nat) (h : i < xs.length), cs[i]? = some (.int k xs[i])
section
variable {w w' : World} {g g' : Nat} {t : TypeId} {k : IntKind} {xs : List Int}
theorem RowC.lt (h : RowC w g t k xs) : g < w.heap.size := by obtain ⟨cs, hb, _⟩ := h; exact hb.lt
theorem RowC.cell (h : RowC w g t k xs) (i : Nat) (hi : i < xs.length) : w.cell? ⟨g, i, none⟩ = some (.int k xs[i]) := by
  obtain ⟨cs, hb, _, hc⟩ := h
  rw [Blk.cell hb, hc i hi]
theorem RowC.frozen (h : RowC w g t k xs) (i : Nat) : w.frozen? ⟨g, i, none⟩ = false := by obtain ⟨cs, hb, _⟩ := h; exact hb.frozen i
theorem RowC.set_ (h : RowC w g t k xs) (i : Nat) (hi : i < xs.length) (u : Int) : RowC (w.setCell ⟨g, i, none⟩ (.int k u)) g t k (xs.set i u) := by
  obtain ⟨cs, hb, hl, hc⟩ := h
  refine ⟨_, hb.set_ i _, by simpa using hl, fun j hj => ?_⟩
  rw [List.length_set] at hj
  rw [Array.getElem?_setIfInBounds, List.getElem_set]
  by_cases e : i = j
  · subst e; rw [if_pos rfl, if_pos rfl, if_pos (by omega)]
  · rw [if_neg e, if_neg e]; exact hc j hj
theorem RowC.other (h : RowC w g t k xs) (hg : g' ≠ g) (i : Nat) (u : Value) : RowC (w.setCell ⟨g', i, none⟩ u) g t k xs := by
  obtain ⟨cs, hb, hl⟩ := h; exact ⟨cs, hb.other hg i u, hl⟩
theorem RowC.below {B : Nat} (h : RowC w g t k xs) (hb : Below B w w') (hg : g < B) : RowC w' g t k xs := by
  obtain ⟨cs, hb', hl⟩ := h; exact ⟨cs, hb'.below hb hg, hl⟩
theorem RowC.off {S : List Nat} (h : RowC w g t k xs) (hb : Off S w w') (hg : g ∉ S) : RowC w' g t k xs := by
  obtain ⟨cs, hb', hl⟩ := h; exact ⟨cs, hb'.off hb hg, hl⟩
theorem RowC.rd (h : RowC w g t k xs) {n c : Nat} (hn : xs.length = n) (hc : n ≤ c) (hm : c ≤ maxLen) : RdI k w w.heap.size (some ⟨g, 0, none⟩) n c xs := by
  refine ⟨⟨by simpa using hn, fun _ => ⟨g, 0, rfl, h.lt, fun j u hu => ?_⟩⟩, hc, hm⟩
  obtain ⟨hj, rfl⟩ := List.getElem?_eq_some_iff.1 hu
  rw [Nat.zero_add, h.cell j (by simpa using hj)]
  simp
end

theorem set_blk {w : World} {b b' : Nat} (h : b ≠ b') {i j : Nat} {u v : Value} (hc : w.cell? ⟨b', j, none⟩ = some v) : (w.setCell ⟨b, i, none⟩ u).cell? ⟨b', j, none⟩ = some v :=
  (World.cell?_setCell_other w ⟨b, i, none⟩ ⟨b', j, none⟩ u (fun e => h (by cases e; rfl))).trans hc

set_option maxRecDepth 100000 in
theorem raise_yes (g : Nat) (Al : Option Addr) (nl cl : Nat) (xs : List IneqD) (I Y n ci cy : Nat) (is why : List Int) (i k : Nat) (lv lc xc : Int) (w : World) (h0 : w.cell? ⟨g, 0, none⟩ = some (.slice Al nl cl)) (h2 : w.cell? ⟨g, 2, none⟩ = some (.slice (some ⟨I, 0, none⟩) n ci)) (h3 : w.cell? ⟨g, 3, none⟩ = some (.slice (some ⟨Y, 0, none⟩) n cy)) (hx : IneqsV w w.heap.size Al nl cl xs)
    (hI : RowC w I 27 .u8 is) (hY : RowC w Y 3 .i64 why) (his : is.length = n) (hwhy : why.length = n) (hci : n ≤ ci) (hci2 : ci ≤ maxLen) (hne : I ≠ Y) (hgI : I ≠ g) (hgY : Y ≠ g) (hg : g < w.heap.size)
    (hi : xs[i]? = some ⟨lv, lc, xc, (k : Int)⟩) (hlv : lc = 0 → 0 ≤ lv ∧ lv < n) (hkn : k < n) (hyes : raiseB is ⟨lv, lc, xc, (k : Int)⟩ = true) :
    Calls Try.prog 65 #[.pointer (some ⟨g, 0, none⟩), .int .i64 i] w fun e w' => e = .returned (.bool true) ∧ RowC w' I 27 .u8 (is.set k (leftL is ⟨lv, lc, xc, (k : Int)⟩)) ∧ RowC w' Y 3 .i64 (why.set k i) ∧ Off [I, Y] w w' := by
  have hmx := @run_max2 Try.prog
  obtain ⟨hil, hxi⟩ := List.getElem?_eq_some_iff.1 hi
  have hr := hI.rd his hci hci2
  have hl := hx.len
  have hin : i < nl := by omega
  have hnl63 : nl ≤ 9223372036854775807 := Nat.le_trans hx.2.1 hx.2.2.1
  have hn63 : n ≤ 9223372036854775807 := Nat.le_trans hr.2.1 hr.2.2
  obtain ⟨bl, offl, rfl, hbl, hcl⟩ := hx.at_ (by omega)
  obtain ⟨e0, e1, e2, e3⟩ := hcl i hil
  rw [hxi] at e0 e1 e2 e3
  dsimp only at e0 e1 e2 e3
  have i1 : (0 : Int) ≤ (i : Int) := by omega
  have i2 : (i : Int) < nl := by omega
  have hkl : k < is.length := by omega
  have hky : k < why.length := by omega
  have hbI : I ≠ w.heap.size := Nat.ne_of_lt hI.lt
  have hbY : Y ≠ w.heap.size := Nat.ne_of_lt hY.lt
  have hbx := below_box (w := w) (Obj.cells #[.int .i64 lv, .int .u8 lc, .int .u8 xc, .int .i64 (k : Int)] 31)
  have hX := blk_new w #[.int .i64 lv, .int .u8 lc, .int .u8 xc, .int .i64 (k : Int)] 31
  have hr1 := (hr.below hbx).more hbx.size
  have hI1 := hI.below hbx hI.lt
  have hY1 := hY.below hbx hY.lt
  have y2 : (w.alloc (Obj.cells #[.int .i64 lv, .int .u8 lc, .int .u8 xc, .int .i64 (k : Int)] 31)).cell? ⟨g, 2, none⟩ = some (.slice (some ⟨I, 0, none⟩) n ci) := (World.cell?_alloc_lt _ _ ⟨g, 2, none⟩ hg).trans h2
  have y3 : (w.alloc (Obj.cells #[.int .i64 lv, .int .u8 lc, .int .u8 xc, .int .i64 (k : Int)] 31)).cell? ⟨g, 3, none⟩ = some (.slice (some ⟨Y, 0, none⟩) n cy) := (World.cell?_alloc_lt _ _ ⟨g, 3, none⟩ hg).trans h3
  have hg1 : g < (w.alloc (Obj.cells #[.int .i64 lv, .int .u8 lc, .int .u8 xc, .int .i64 (k : Int)] 31)).heap.size := by simp; omega
  obtain ⟨L, hL⟩ : ∃ L, leftL is ⟨lv, lc, xc, (k : Int)⟩ = L := ⟨_, rfl⟩
  rw [hL]
  have HL := Lib.hid hL
  have Hlv := Lib.hid hlv
  have hgd : is.getD (k : Int).toNat 0 = is[k] := by rw [Int.toNat_natCast]; simp [List.getD, hkl]
  have hnn : max xc is[k] < L := by
    unfold raiseB at hyes
    rw [Bool.and_eq_true, decide_eq_true_eq, decide_eq_true_eq] at hyes
    have := hyes.2
    dsimp only at this
    rw [hgd, hL] at this
    exact this
  have q0 := hI1.cell k hkl
  generalize is[k] = LL at q0 hnn
  have d0 : decide ((k : Int) < 0) = false := by simp
  have d1 : decide (L ≤ max xc LL) = false := by simp; omega
  have k1 : (0 : Int) ≤ (k : Int) := by omega
  have k2 : (k : Int) < n := by omega
  have Hbx := Lib.hid hbx
  have Hr1 := Lib.hid hr1
  have HX := Lib.hid hX
  have Hy2 := Lib.hid y2
  have Hy3 := Lib.hid y3
  have HI := Lib.hid hI1
  have HY := Lib.hid hY1
  have Hkl := Lib.hid hkl
  have Hky := Lib.hid hky
  clear hl hcl hxi hi hyes hlv hL hnn hr1 hr hX hbx hgd hI1 hY1 hI hY h2 h3 hx his hwhy y3 hkl hky
  go_enter Try.func65, Try.ntmps65
  go_wp2_with fail
  generalize hW : w.alloc (Obj.cells #[.int .i64 lv, .int .u8 lc, .int .u8 xc, .int .i64 (k : Int)] 31) = w0 at y2 q0 hg1 Hr1 HX Hy2 Hy3 Hbx HI HY ⊢
  clear hW
  have x0 : w0.cell? ⟨w.heap.size, 0, none⟩ = some (.int .i64 lv) := HX.out.cell 0
  have x1 : w0.cell? ⟨w.heap.size, 1, none⟩ = some (.int .u8 lc) := HX.out.cell 1
  have x2 : w0.cell? ⟨w.heap.size, 2, none⟩ = some (.int .u8 xc) := HX.out.cell 2
  have x3 : w0.cell? ⟨w.heap.size, 3, none⟩ = some (.int .i64 (k : Int)) := HX.out.cell 3
  have kx0 := fun d os => cell_regrown x0 d os
  have kx1 := fun d os => cell_regrown x1 d os
  have kx2 := fun d os => cell_regrown x2 d os
  have kx3 := fun d os => cell_regrown x3 d os
  have ky2 := fun d os => cell_regrown y2 d os
  have kq0 := fun d os => cell_regrown q0 d os
  clear x0 x1 x2 x3 y2 q0
  have hq : ∀ d os, Calls Try.prog 45 #[.pointer (some ⟨g, 0, none⟩), .agg #[.int .i64 lv, .int .u8 lc, .int .u8 xc, .int .i64 (k : Int)]] («Sort».grow (redrawn w0 d) os) (fun e w' => e = .returned (.int .u8 L) ∧ Below («Sort».grow (redrawn w0 d) os).heap.size («Sort».grow (redrawn w0 d) os) w') := fun d os =>
    left_at (x := ⟨lv, lc, xc, (k : Int)⟩) HL.out (cell_regrown Hy2.out d os) ((Hr1.out.below (below_regrown w0 d os)).more (below_regrown w0 d os).size) (Nat.lt_of_lt_of_le hg1 (below_regrown w0 d os).size) Hlv.out
  replace hq := Lib.hid hq
  refine wp_region_quiet_below (by kernel_rfl) (by kernel_rfl) ?_
  repeat (go_big_quiet_step ((first | (go_at_call 45; exact Calls.regrown_of (hq.out _ _)))))
  refine wpQuiet_nil ?_
  intro _ hw'
  obtain ⟨⟨dq, osq⟩, hw''⟩ := hw'
  subst hw''
  have hb1 := below_regrown w0 dq osq
  clear kx0 kx1 kx2 kx3 ky2 kq0 hq
  generalize «Sort».grow (redrawn w0 dq) osq = w1 at hb1 ⊢
  have hX1 := HX.out.below hb1 HX.out.lt
  have hr2 := (Hr1.out.below hb1).more hb1.size
  have y2 : w1.cell? ⟨g, 2, none⟩ = some (.slice (some ⟨I, 0, none⟩) n ci) := (hb1.cell hg1).trans Hy2.out
  have y3 : w1.cell? ⟨g, 3, none⟩ = some (.slice (some ⟨Y, 0, none⟩) n cy) := (hb1.cell hg1).trans Hy3.out
  have hg2 : g < w1.heap.size := Nat.lt_of_lt_of_le hg1 hb1.size
  have hI2 := HI.out.below hb1 HI.out.lt
  have hY2 := HY.out.below hb1 HY.out.lt
  have hbw : Below w.heap.size w w1 := Hbx.out.trans (hb1.mono Hbx.out.size)
  clear hb1 Hbx Hr1 HX Hy2 Hy3 HI HY hg1
  clear w0
  have x0 : w1.cell? ⟨w.heap.size, 0, none⟩ = some (.int .i64 lv) := hX1.cell 0
  have x1 : w1.cell? ⟨w.heap.size, 1, none⟩ = some (.int .u8 lc) := hX1.cell 1
  have x2 : w1.cell? ⟨w.heap.size, 2, none⟩ = some (.int .u8 xc) := hX1.cell 2
  have x3 : w1.cell? ⟨w.heap.size, 3, none⟩ = some (.int .i64 (k : Int)) := hX1.cell 3
  have hwl : w.heap.size < w1.heap.size := hX1.lt
  have Hr2 := Lib.hid hr2
  have HI2 := Lib.hid hI2
  have HY2 := Lib.hid hY2
  have Hbw := Lib.hid hbw
  clear hr2 hI2 hY2 hbw hX1
  have hne' : ¬ Y = I := fun e => hne e.symm
  go_wp2_with fail
  go_region_held3 (fun w' => w'.cell? ⟨g, 2, none⟩ = some (.slice (some ⟨I, 0, none⟩) n ci) ∧ w'.cell? ⟨g, 3, none⟩ = some (.slice (some ⟨Y, 0, none⟩) n cy) ∧ w'.cell? ⟨w.heap.size, 0, none⟩ = some (.int .i64 lv) ∧ w'.cell? ⟨w.heap.size, 1, none⟩ = some (.int .u8 lc) ∧ w'.cell? ⟨w.heap.size, 2, none⟩ = some (.int .u8 xc) ∧ w'.cell? ⟨w.heap.size, 3, none⟩ = some (.int .i64 (k : Int)))
    (first | go_keep | exact ⟨y2, y3, x0, x1, x2, x3⟩ | exact ⟨z2, z3, v0, v1, v2, v3⟩ | exact ⟨set_blk hgI z2, set_blk hgI z3, set_blk hbI v0, set_blk hbI v1, set_blk hbI v2, set_blk hbI v3⟩ | exact ⟨set_blk hgY z2, set_blk hgY z3, set_blk hbY v0, set_blk hbY v1, set_blk hbY v2, set_blk hbY v3⟩ | exact ⟨set_blk hgY (set_blk hgI z2), set_blk hgY (set_blk hgI z3), set_blk hbY (set_blk hbI v0), set_blk hbY (set_blk hbI v1), set_blk hbY (set_blk hbI v2), set_blk hbY (set_blk hbI v3)⟩ | exact ⟨set_blk hgI (set_blk hgY z2), set_blk hgI (set_blk hgY z3), set_blk hbI (set_blk hbY v0), set_blk hbI (set_blk hbY v1), set_blk hbI (set_blk hbY v2), set_blk hbI (set_blk hbY v3)⟩)
    ((go_at_call 45; refine (left_at (x := ⟨lv, lc, xc, (k : Int)⟩) (w := w1.drew) HL.out y2 (Hr2.out.keep (w' := w1.drew) fun _ _ => rfl) hg2 Hlv.out).mono ?_; rintro e w5 ⟨rfl, hb5⟩;
      replace hb5 : Below w1.heap.size w1 w5 := ((Below.refl _ _).drew).trans hb5; have hI5 := HI2.out.below hb5 HI2.out.lt; have hY5 := HY2.out.below hb5 HY2.out.lt;
      have p0 := hI5.frozen k; have p1 := hY5.frozen k; have p2 := hI5.cell k Hkl.out; have p3 := hY5.cell k Hky.out;
      have z2 : w5.cell? ⟨g, 2, none⟩ = some (.slice (some ⟨I, 0, none⟩) n ci) := (hb5.cell (p := ⟨g, 2, none⟩) hg2).trans y2; have z3 : w5.cell? ⟨g, 3, none⟩ = some (.slice (some ⟨Y, 0, none⟩) n cy) := (hb5.cell (p := ⟨g, 3, none⟩) hg2).trans y3;
      have v0 : w5.cell? ⟨w.heap.size, 0, none⟩ = some (.int .i64 lv) := (hb5.cell (p := ⟨w.heap.size, 0, none⟩) hwl).trans x0; have v1 : w5.cell? ⟨w.heap.size, 1, none⟩ = some (.int .u8 lc) := (hb5.cell (p := ⟨w.heap.size, 1, none⟩) hwl).trans x1;
      have v2 : w5.cell? ⟨w.heap.size, 2, none⟩ = some (.int .u8 xc) := (hb5.cell (p := ⟨w.heap.size, 2, none⟩) hwl).trans x2; have v3 : w5.cell? ⟨w.heap.size, 3, none⟩ = some (.int .i64 (k : Int)) := (hb5.cell (p := ⟨w.heap.size, 3, none⟩) hwl).trans x3))
  have hfI : RowC ((w5.setCell ⟨I, k, none⟩ (.int .u8 L)).setCell ⟨Y, k, none⟩ (.int .i64 i)) I 27 .u8 (is.set k L) := (hI5.set_ k Hkl.out L).other (Ne.symm hne) k _
  have hfY : RowC ((w5.setCell ⟨I, k, none⟩ (.int .u8 L)).setCell ⟨Y, k, none⟩ (.int .i64 i)) Y 3 .i64 (why.set k i) := (hY5.other hne k _).set_ k Hky.out i
  have hfo : Off [I, Y] w ((w5.setCell ⟨I, k, none⟩ (.int .u8 L)).setCell ⟨Y, k, none⟩ (.int .i64 i)) := ((Off.of_below (Hbw.out.trans (hb5.mono Hbw.out.size))).set (by simp) _ _).set (by simp) _ _
  generalize (w5.setCell ⟨I, k, none⟩ (.int .u8 L)).setCell ⟨Y, k, none⟩ (.int .i64 i) = w9 at hfI hfY hfo ⊢
  clear hI5 hY5 hb5 p0 p1 p2 p3 z2 z3 v0 v1 v2 v3
  go_wp2_with fail
  go_ret
  exact ⟨rfl, hfI, hfY, hfo⟩

end Go.Proofs.Ythabkpkgocafoaa
