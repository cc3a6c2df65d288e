/- The contract of ineq.Fits. -/
import Derived.Test.YtbccnfgceabopaaDoorIneqP
namespace Go.Proofs.YtbccnfgceabopaaDoor
set_option linter.unusedVariables false
set_option linter.unusedSimpArgs false
open Go.RowKit

def putsV (c r : Int) (vars : List Int) : List IneqD := vars.flatMap fun v => putQ c r v 0
def fitsL (c r top : Int) (vars : List Int) : List IneqD := putQ c r 0 top ++ putsV c r vars
def fitsQ (t : TermD) (g mv mc : Int) : List IneqD := fitsL (max g mc) (if mc = 0 then mv else -1) (leastT t).c (leastT t).vars
def fitsB (t : TermD) (g mv mc : Int) : Bool := mayB t && isB mc mv && decide (1 ≤ g) && decide (g ≤ 3)
theorem putQ_len (c r mv mc : Int) : (putQ c r mv mc).length ≤ 1 := by unfold putQ; split <;> simp
theorem putsV_len (c r : Int) : ∀ (vars : List Int), (putsV c r vars).length ≤ vars.length
  | [] => by simp [putsV]
  | v :: l => by
    have h1 := putQ_len c r v 0
    have h2 := putsV_len c r l
    unfold putsV at h2 ⊢
    rw [List.flatMap_cons, List.length_append, List.length_cons]
    omega
theorem putsV_snoc (c r : Int) (l : List Int) (v : Int) : putsV c r (l ++ [v]) = putsV c r l ++ putQ c r v 0 := by
  unfold putsV
  rw [List.flatMap_append]
  simp

/-- the call returns inequalities and an error -/
def RetQE (xs : List IneqD) (x : Int) (w : World) (e : Ending) (w' : World) : Prop :=
  ∃ A n c, e = .returned (.tuple #[.slice A n c, .int .i64 x]) ∧ IneqsV w' w'.heap.size A n c xs ∧ Below w.heap.size w w'

/-- t and m in their boxes -/
def F0 (t : TermD) (A : Option Addr) (n cp : Nat) (mv mc : Int) (w : World) : World := (w.alloc (Obj.cells #[.bool t.never, .int .u8 t.c, .slice A n cp] 25)).alloc (Obj.cells #[.int .i64 mv, .int .u8 mc] 31)
theorem F0_facts (t : TermD) (A : Option Addr) (n cp : Nat) (mv mc : Int) (w : World) :
    Below w.heap.size w (F0 t A n cp mv mc w) ∧ (F0 t A n cp mv mc w).heap.size = w.heap.size + 2 ∧ Blk (F0 t A n cp mv mc w) w.heap.size 25 #[.bool t.never, .int .u8 t.c, .slice A n cp] ∧ Blk (F0 t A n cp mv mc w) (w.heap.size + 1) 31 #[.int .i64 mv, .int .u8 mc] := by
  unfold F0
  refine ⟨((Below.refl _ _).alloc (Nat.le_refl _) _).alloc (by simp) _, by simp, (blk_new _ _ _).alloc _, ?_⟩
  have := blk_new (w.alloc (Obj.cells #[.bool t.never, .int .u8 t.c, .slice A n cp] 25)) #[.int .i64 mv, .int .u8 mc] 31
  rw [World.size_alloc] at this
  exact this

theorem may_at (v : Value) (t : TermD) (x : Int) (hx : mayE t = x) (w : World) (B : Nat) (hv : TermV w B v t) (hB : B ≤ w.heap.size) :
    Calls Tryd.prog 35 #[v] w fun e w' => e = .returned (.int .i64 x) ∧ Below w.heap.size w w' := by
  rw [← hx]; exact may_any v t w B hv hB

theorem IneqsV.nilR {w : World} {B : Nat} : IneqsV w B none 0 0 [] := IneqsV.nil

set_option maxRecDepth 100000 in
theorem fits_no (tv : Value) (t : TermD) (g mv mc : Int) (w : World) (B : Nat) (hv : TermV w B tv t) (hB : B ≤ w.heap.size) (h : fitsB t g mv mc = false) :
    Calls Tryd.prog 21 #[tv, .int .u8 g, .agg #[.int .i64 mv, .int .u8 mc]] w (RetQE [] 2 w) := by
  cases hm : mayB t
  · have HM := Lib.hid (mayE_no hm)
    clear h hm
    obtain ⟨A, n, cp, rfl, hr⟩ := hv
    obtain ⟨hb0, hs0, ht0, hm0⟩ := F0_facts t A n cp mv mc w
    have hr0 := (hr.more hB).below hb0
    have tx : ∀ w', Below (w.heap.size + 2) (F0 t A n cp mv mc w) w' → w'.cell? ⟨w.heap.size, 0, none⟩ = some (.bool t.never) ∧ w'.cell? ⟨w.heap.size, 1, none⟩ = some (.int .u8 t.c) ∧ w'.cell? ⟨w.heap.size, 2, none⟩ = some (.slice A n cp) ∧ w'.cell? ⟨w.heap.size + 1, 0, none⟩ = some (.int .i64 mv) ∧ w'.cell? ⟨w.heap.size + 1, 1, none⟩ = some (.int .u8 mc) := fun w' hb => ⟨(ht0.below hb (by omega)).cell 0, (ht0.below hb (by omega)).cell 1, (ht0.below hb (by omega)).cell 2, (hm0.below hb (by omega)).cell 0, (hm0.below hb (by omega)).cell 1⟩
    have Tx := Lib.hid tx
    obtain ⟨x0, x1, x2, -, -⟩ := tx _ (Below.refl _ _)
    clear tx
    go_enter Tryd.func21, Tryd.ntmps21
    go_wp2_with fail
    refine (may_at (.agg #[.bool t.never, .int .u8 t.c, .slice A n cp]) t _ HM.out (F0 t A n cp mv mc w) w.heap.size ⟨A, n, cp, rfl, hr0⟩ (by omega)).mono ?_; rintro e w1 ⟨rfl, hb1⟩
    clear x0 x1 x2
    generalize hF : F0 t A n cp mv mc w = w0 at hb0 hs0 ht0 hm0 hr0 Tx hb1 ⊢
    clear hF
    have hk1 := hb1.mono (show w.heap.size + 2 ≤ w0.heap.size by omega)
    have hw1 := hb0.trans (hb1.mono (by omega))
    go_wp2_with fail
    go_ret2
    exact ⟨none, 0, 0, rfl, IneqsV.nil, hw1⟩
  · have HM := Lib.hid (mayE_yes hm)
    cases hi : isB mc mv
    · have HI := Lib.hid (isE_no hi)
      clear h hm hi
      obtain ⟨A, n, cp, rfl, hr⟩ := hv
      obtain ⟨hb0, hs0, ht0, hm0⟩ := F0_facts t A n cp mv mc w
      have hr0 := (hr.more hB).below hb0
      have tx : ∀ w', Below (w.heap.size + 2) (F0 t A n cp mv mc w) w' → w'.cell? ⟨w.heap.size, 0, none⟩ = some (.bool t.never) ∧ w'.cell? ⟨w.heap.size, 1, none⟩ = some (.int .u8 t.c) ∧ w'.cell? ⟨w.heap.size, 2, none⟩ = some (.slice A n cp) ∧ w'.cell? ⟨w.heap.size + 1, 0, none⟩ = some (.int .i64 mv) ∧ w'.cell? ⟨w.heap.size + 1, 1, none⟩ = some (.int .u8 mc) := fun w' hb => ⟨(ht0.below hb (by omega)).cell 0, (ht0.below hb (by omega)).cell 1, (ht0.below hb (by omega)).cell 2, (hm0.below hb (by omega)).cell 0, (hm0.below hb (by omega)).cell 1⟩
      have Tx := Lib.hid tx
      obtain ⟨x0, x1, x2, -, -⟩ := tx _ (Below.refl _ _)
      clear tx
      go_enter Tryd.func21, Tryd.ntmps21
      go_wp2_with fail
      refine (may_at (.agg #[.bool t.never, .int .u8 t.c, .slice A n cp]) t _ HM.out (F0 t A n cp mv mc w) w.heap.size ⟨A, n, cp, rfl, hr0⟩ (by omega)).mono ?_; rintro e w1 ⟨rfl, hb1⟩
      clear x0 x1 x2
      generalize hF : F0 t A n cp mv mc w = w0 at hb0 hs0 ht0 hm0 hr0 Tx hb1 ⊢
      clear hF
      have hk1 := hb1.mono (show w.heap.size + 2 ≤ w0.heap.size by omega)
      have hw1 := hb0.trans (hb1.mono (by omega))
      obtain ⟨-, -, -, y0, y1⟩ := Tx.out _ hk1
      go_wp2_with fail
      refine (is_at mc mv _ HI.out w1).mono ?_; rintro e w2 ⟨rfl, hb2⟩
      have hk2 := hk1.trans (hb2.mono (by have := hb1.size; omega))
      have hw2 := hw1.trans (hb2.mono hw1.size)
      clear y0 y1
      go_wp2_with fail
      go_ret2
      exact ⟨none, 0, 0, rfl, IneqsV.nil, hw2⟩
    · have HI := Lib.hid (isE_yes hi)
      have hg : ¬ (1 ≤ g ∧ g ≤ 3) := by
        rintro ⟨ha, hb⟩
        simp [fitsB, hm, hi, ha, hb] at h
      clear h hm hi
      by_cases h1 : g < 1
      · clear hg
        obtain ⟨A, n, cp, rfl, hr⟩ := hv
        obtain ⟨hb0, hs0, ht0, hm0⟩ := F0_facts t A n cp mv mc w
        have hr0 := (hr.more hB).below hb0
        have tx : ∀ w', Below (w.heap.size + 2) (F0 t A n cp mv mc w) w' → w'.cell? ⟨w.heap.size, 0, none⟩ = some (.bool t.never) ∧ w'.cell? ⟨w.heap.size, 1, none⟩ = some (.int .u8 t.c) ∧ w'.cell? ⟨w.heap.size, 2, none⟩ = some (.slice A n cp) ∧ w'.cell? ⟨w.heap.size + 1, 0, none⟩ = some (.int .i64 mv) ∧ w'.cell? ⟨w.heap.size + 1, 1, none⟩ = some (.int .u8 mc) := fun w' hb => ⟨(ht0.below hb (by omega)).cell 0, (ht0.below hb (by omega)).cell 1, (ht0.below hb (by omega)).cell 2, (hm0.below hb (by omega)).cell 0, (hm0.below hb (by omega)).cell 1⟩
        have Tx := Lib.hid tx
        obtain ⟨x0, x1, x2, -, -⟩ := tx _ (Below.refl _ _)
        clear tx
        go_enter Tryd.func21, Tryd.ntmps21
        go_wp2_with fail
        refine (may_at (.agg #[.bool t.never, .int .u8 t.c, .slice A n cp]) t _ HM.out (F0 t A n cp mv mc w) w.heap.size ⟨A, n, cp, rfl, hr0⟩ (by omega)).mono ?_; rintro e w1 ⟨rfl, hb1⟩
        clear x0 x1 x2
        generalize hF : F0 t A n cp mv mc w = w0 at hb0 hs0 ht0 hm0 hr0 Tx hb1 ⊢
        clear hF
        have hk1 := hb1.mono (show w.heap.size + 2 ≤ w0.heap.size by omega)
        have hw1 := hb0.trans (hb1.mono (by omega))
        obtain ⟨-, -, -, y0, y1⟩ := Tx.out _ hk1
        go_wp2_with fail
        refine (is_at mc mv _ HI.out w1).mono ?_; rintro e w2 ⟨rfl, hb2⟩
        have hk2 := hk1.trans (hb2.mono (by have := hb1.size; omega))
        have hw2 := hw1.trans (hb2.mono hw1.size)
        clear y0 y1
        go_wp2_with fail
        go_ret2
        exact ⟨none, 0, 0, rfl, IneqsV.nil, hw2⟩
      · have h2 : 3 < g := by omega
        clear hg
        obtain ⟨A, n, cp, rfl, hr⟩ := hv
        obtain ⟨hb0, hs0, ht0, hm0⟩ := F0_facts t A n cp mv mc w
        have hr0 := (hr.more hB).below hb0
        have tx : ∀ w', Below (w.heap.size + 2) (F0 t A n cp mv mc w) w' → w'.cell? ⟨w.heap.size, 0, none⟩ = some (.bool t.never) ∧ w'.cell? ⟨w.heap.size, 1, none⟩ = some (.int .u8 t.c) ∧ w'.cell? ⟨w.heap.size, 2, none⟩ = some (.slice A n cp) ∧ w'.cell? ⟨w.heap.size + 1, 0, none⟩ = some (.int .i64 mv) ∧ w'.cell? ⟨w.heap.size + 1, 1, none⟩ = some (.int .u8 mc) := fun w' hb => ⟨(ht0.below hb (by omega)).cell 0, (ht0.below hb (by omega)).cell 1, (ht0.below hb (by omega)).cell 2, (hm0.below hb (by omega)).cell 0, (hm0.below hb (by omega)).cell 1⟩
        have Tx := Lib.hid tx
        obtain ⟨x0, x1, x2, -, -⟩ := tx _ (Below.refl _ _)
        clear tx
        go_enter Tryd.func21, Tryd.ntmps21
        go_wp2_with fail
        refine (may_at (.agg #[.bool t.never, .int .u8 t.c, .slice A n cp]) t _ HM.out (F0 t A n cp mv mc w) w.heap.size ⟨A, n, cp, rfl, hr0⟩ (by omega)).mono ?_; rintro e w1 ⟨rfl, hb1⟩
        clear x0 x1 x2
        generalize hF : F0 t A n cp mv mc w = w0 at hb0 hs0 ht0 hm0 hr0 Tx hb1 ⊢
        clear hF
        have hk1 := hb1.mono (show w.heap.size + 2 ≤ w0.heap.size by omega)
        have hw1 := hb0.trans (hb1.mono (by omega))
        obtain ⟨-, -, -, y0, y1⟩ := Tx.out _ hk1
        go_wp2_with fail
        refine (is_at mc mv _ HI.out w1).mono ?_; rintro e w2 ⟨rfl, hb2⟩
        have hk2 := hk1.trans (hb2.mono (by have := hb1.size; omega))
        have hw2 := hw1.trans (hb2.mono hw1.size)
        clear y0 y1
        go_wp2_with fail
        go_ret2
        exact ⟨none, 0, 0, rfl, IneqsV.nil, hw2⟩

set_option maxRecDepth 100000 in
set_option maxHeartbeats 1000000 in
theorem fits_yes (tv : Value) (t : TermD) (g mv mc : Int) (w : World) (B : Nat) (hv : TermV w B tv t) (hB : B ≤ w.heap.size) (h : fitsB t g mv mc = true) (hbig : t.vars.length ≤ 1000000000) :
    Calls Tryd.prog 21 #[tv, .int .u8 g, .agg #[.int .i64 mv, .int .u8 mc]] w (RetQE (fitsQ t g mv mc) 0 w) := by
  have hmx := @run_max2 Tryd.prog
  unfold fitsB at h
  simp only [Bool.and_eq_true, decide_eq_true_eq] at h
  obtain ⟨⟨⟨hm, hi⟩, hg1⟩, hg2⟩ := h
  have HM := Lib.hid (mayE_yes hm)
  have HI := Lib.hid (isE_yes hi)
  clear hm hi
  obtain ⟨A, n, cp, rfl, hr⟩ := hv
  obtain ⟨hb0, hs0, ht0, hm0⟩ := F0_facts t A n cp mv mc w
  have hr0 := (hr.more hB).below hb0
  have tx : ∀ w', Below (w.heap.size + 2) (F0 t A n cp mv mc w) w' → w'.cell? ⟨w.heap.size, 0, none⟩ = some (.bool t.never) ∧ w'.cell? ⟨w.heap.size, 1, none⟩ = some (.int .u8 t.c) ∧ w'.cell? ⟨w.heap.size, 2, none⟩ = some (.slice A n cp) ∧ w'.cell? ⟨w.heap.size + 1, 0, none⟩ = some (.int .i64 mv) ∧ w'.cell? ⟨w.heap.size + 1, 1, none⟩ = some (.int .u8 mc) := fun w' hb => ⟨(ht0.below hb (by omega)).cell 0, (ht0.below hb (by omega)).cell 1, (ht0.below hb (by omega)).cell 2, (hm0.below hb (by omega)).cell 0, (hm0.below hb (by omega)).cell 1⟩
  have Tx := Lib.hid tx
  obtain ⟨x0, x1, x2, -, -⟩ := tx _ (Below.refl _ _)
  clear tx
  go_enter Tryd.func21, Tryd.ntmps21
  go_wp2_with fail
  refine (may_at (.agg #[.bool t.never, .int .u8 t.c, .slice A n cp]) t _ HM.out (F0 t A n cp mv mc w) w.heap.size ⟨A, n, cp, rfl, hr0⟩ (by omega)).mono ?_; rintro e w1 ⟨rfl, hb1⟩
  clear x0 x1 x2
  generalize hF : F0 t A n cp mv mc w = w0 at hb0 hs0 ht0 hm0 hr0 Tx hb1 ⊢
  clear hF
  have hk1 := hb1.mono (show w.heap.size + 2 ≤ w0.heap.size by omega)
  have hw1 := hb0.trans (hb1.mono (by omega))
  obtain ⟨-, -, -, y0, y1⟩ := Tx.out _ hk1
  go_wp2_with fail
  refine (is_at mc mv _ HI.out w1).mono ?_; rintro e w2 ⟨rfl, hb2⟩
  have hk2 := hk1.trans (hb2.mono (by have := hb1.size; omega))
  have hw2 := hw1.trans (hb2.mono hw1.size)
  clear y0 y1
  obtain ⟨t0, t1, t2, y0, y1⟩ := Tx.out _ hk2
  have z0 : w.heap.size + 1 < w2.heap.size := by have h1 := hb1.size; have h2 := hb2.size; omega
  have z1 : w.heap.size < w2.heap.size := by omega
  have d1 : decide (g < 1) = false := by simp; omega
  have d2 : decide (3 < g) = false := by simp; omega
  have Hbig := Lib.hid hbig
  have HT : Hid ((leastT t).vars.length ≤ 1000000000) := by
    show _ ≤ _
    unfold leastT
    split
    · simp
    · exact hbig
  clear hbig
  by_cases h0 : mc = 0
  · subst h0
    have Hfit : Hid (fitsQ t g mv 0 = fitsL (max g 0) mv (leastT t).c (leastT t).vars) := Lib.hid rfl
    go_wp2_with fail
    have hG := blk_new w2 #[.int .u8 (max g 0), .int .i64 mv, .slice none 0 0] 80
    have hb3 := below_box (w := w2) (Obj.cells #[.int .u8 (max g 0), .int .i64 mv, .slice none 0 0] 80)
    have hz3 : w2.heap.size < (w2.alloc (Obj.cells #[.int .u8 (max g 0), .int .i64 mv, .slice none 0 0] 80)).heap.size := by simp
    generalize w2.alloc (Obj.cells #[.int .u8 (max g 0), .int .i64 mv, .slice none 0 0] 80) = w3 at hG hb3 hz3 ⊢
    have hk3 := hk2.trans (hb3.mono (by omega))
    have hw3 := hw2.trans (hb3.mono (by omega))
    have hr3 := (hr0.below (hk3.mono (by omega)))
    have ht3 := ht0.below hk3 (by omega)
    clear t0 t1 t2
    refine (least_own_t (.agg #[.bool t.never, .int .u8 t.c, .slice A n cp]) t w3 w.heap.size ⟨A, n, cp, rfl, hr3⟩ (by omega) (by have := Hbig.out; omega)).mono ?_
    rintro e w4 ⟨A4, n4, c4, rfl, hr4, hb4, hf4⟩
    have ht4 := ht3.below hb4 (by omega)
    have hG4 := hG.below hb4 (by omega)
    have hw4 := hw3.trans (hb4.mono (by omega))
    have hz4 : w3.heap.size ≤ w4.heap.size := hb4.size
    have u0 : w4.cell? ⟨w.heap.size, 0, none⟩ = some (.bool t.never) := ht4.cell 0
    have u1 : w4.cell? ⟨w.heap.size, 1, none⟩ = some (.int .u8 t.c) := ht4.cell 1
    have u2 : w4.cell? ⟨w.heap.size, 2, none⟩ = some (.slice A n cp) := ht4.cell 2
    have v0 := ht4.frozen 0
    have v1 := ht4.frozen 1
    have v2 := ht4.frozen 2
    generalize leastT t = T at Hfit hr4 HT ⊢
    clear hb4 hG ht3 hr3 hk3 hw3 hb3
    go_wp2_with fail
    have hX := (((But.refl w4.heap.size w.heap.size w4).set 0 (.bool T.never)).set 1 (.int .u8 T.c)).set 2 (.slice A4 n4 c4)
    have hs5 := ht4.set3 (.bool T.never) (.int .u8 T.c) (.slice A4 n4 c4)
    have hw5 := hw4.trans (hX.below (by omega))
    have hz5 : w4.heap.size ≤ ((((w4.setCell ⟨w.heap.size, 0, none⟩ (.bool T.never)).setCell ⟨w.heap.size, 1, none⟩ (.int .u8 T.c)).setCell ⟨w.heap.size, 2, none⟩ (.slice A4 n4 c4))).heap.size := by simp
    have hG5 := hG4.but hX (by omega) (by omega)
    have hr5 := hX.rdI hr4 (fun a ha => by have := hf4 a ha; omega)
    generalize (((w4.setCell ⟨w.heap.size, 0, none⟩ (.bool T.never)).setCell ⟨w.heap.size, 1, none⟩ (.int .u8 T.c)).setCell ⟨w.heap.size, 2, none⟩ (.slice A4 n4 c4)) = w5 at hX hs5 hw5 hz5 hG5 hr5 ⊢
    have hL5 : LayW w5 w2.heap.size w4.heap.size (max g 0) mv [] := ⟨none, 0, hG5, World.ownsRow_nil _ _ _ _, by omega, by omega⟩
    clear hX u0 u1 u2 v0 v1 v2 hG4 ht4 hr4 hw4
    refine (put_any 0 T.c (max g 0) mv w2.heap.size w4.heap.size [] w5 hL5 (by simp)).mono ?_
    rintro e w6 ⟨rfl, hL6, hx6⟩
    rw [List.nil_append] at hL6
    have hs6 := hs5.but hx6 (by omega) (by omega)
    have p2 : w6.cell? ⟨w.heap.size, 2, none⟩ = some (.slice A4 n4 c4) := hs6.cell 2
    have Hr6 := Lib.hid (hx6.rdI hr5 (fun a ha => by have := hf4 a ha; omega))
    have Hw6 := Lib.hid (hw5.trans (hx6.below (by omega) |>.mono (by omega)))
    have HL6 := Lib.hid hL6
    have Hf4 := Lib.hid hf4
    have Hl := Lib.hid Hr6.out.len
    have hn63 : n4 ≤ 1000000000 := by have := Hl.out; have := HT.out; omega
    clear hL5 hs5 hG5 hr5 hx6 hs6 hL6 hf4 hw5
    go_wp2_with fail
    go_loopg [54] n4 (fun gh i wr => ∃ k : Nat, k ≤ n4 ∧ gh = n4 - k ∧ i = .int .i64 k ∧ Hid (LayW wr w2.heap.size w4.heap.size (max g 0) mv (putQ (max g 0) mv 0 T.c ++ putsV (max g 0) mv (T.vars.take k))) ∧ Hid (But w4.heap.size w2.heap.size w6 wr))
    case atStart => exact ⟨0, Nat.zero_le _, rfl, rfl, by rw [List.take_zero]; show Hid (LayW _ _ _ _ _ (_ ++ [])); rw [List.append_nil]; exact HL6, Lib.hid (But.refl _ _ _)⟩
    case round =>
      obtain ⟨k, hk, rfl, rfl, HL, HX⟩ := hrel
      by_cases hlk : k < n4
      · have hk' : k < T.vars.length := by rw [Hl.out]; exact hlk
        have hrr := HX.out.rdI Hr6.out (fun a ha => by have := Hf4.out a ha; omega)
        obtain ⟨b, off, rfl, hb, hcell⟩ := hrr.at_ (by omega)
        have q0 := hcell k hk'
        have htk : T.vars.take (k + 1) = T.vars.take k ++ [T.vars[k]] := by rw [List.take_succ_eq_append_getElem hk']
        have Htk := Lib.hid htk
        generalize T.vars[k] = V at q0 Htk
        have hlen : (putQ (max g 0) mv 0 T.c ++ putsV (max g 0) mv (T.vars.take k)).length ≤ 1099511627776 := by
          have h1 := putQ_len (max g 0) mv 0 T.c
          have h2 := putsV_len (max g 0) mv (T.vars.take k)
          have h3 : (T.vars.take k).length ≤ k := List.length_take_le _ _
          rw [List.length_append]
          omega
        have Hlen := Lib.hid hlen
        clear htk hcell hrr hlen
        go_wp2_with fail
        refine (put_any V 0 (max g 0) mv w2.heap.size w4.heap.size _ wr HL.out Hlen.out).mono ?_
        rintro e w7 ⟨rfl, hL7, hx7⟩
        have HL7 : Hid (LayW w7 w2.heap.size w4.heap.size (max g 0) mv (putQ (max g 0) mv 0 T.c ++ putsV (max g 0) mv (T.vars.take (k + 1)))) := by
          show LayW _ _ _ _ _ _
          rw [Htk.out, putsV_snoc, ← List.append_assoc]
          exact hL7
        have HX7 := Lib.hid (HX.out.trans hx7)
        clear hL7 hx7
        go_wp2_with fail
        go_roundg (n4 - (k + 1))
        case measure => omega
        case rel => exact ⟨k + 1, by omega, rfl, by go_num, HL7, HX7⟩
      · have hkn : k = n4 := by omega
        subst hkn
        have HL' : Hid (LayW wr w2.heap.size w4.heap.size (max g 0) mv (fitsQ t g mv 0)) := by
          show LayW _ _ _ _ _ _
          rw [Hfit.out]
          have := HL.out
          rw [List.take_of_length_le (by rw [Hl.out]; exact Nat.le_refl _)] at this
          exact this
        obtain ⟨A8, c8, hG8, ho8, -, -⟩ := HL'.out
        have p8 : wr.cell? ⟨w2.heap.size, 2, none⟩ = some (.slice A8 (fitsQ t g mv 0).length c8) := hG8.cell 2
        have Ho8 := Lib.hid ho8
        clear HL ho8 hG8
        go_wp2_with fail
        go_ret2
        exact ⟨A8, _, c8, rfl, IneqsV.of_own Ho8.out, Hw6.out.trans ((HX.out.below (by omega)).mono (by omega))⟩
  · have Hfit : Hid (fitsQ t g mv mc = fitsL (max g mc) (-1) (leastT t).c (leastT t).vars) := by show _ = _; unfold fitsQ; rw [if_neg h0]
    have hz : (mc == 0) = false := by simp [h0]
    clear h0
    go_wp2_with fail
    have hG := blk_new w2 #[.int .u8 (max g mc), .int .i64 (-1), .slice none 0 0] 80
    have hb3 := below_box (w := w2) (Obj.cells #[.int .u8 (max g mc), .int .i64 (-1), .slice none 0 0] 80)
    have hz3 : w2.heap.size < (w2.alloc (Obj.cells #[.int .u8 (max g mc), .int .i64 (-1), .slice none 0 0] 80)).heap.size := by simp
    generalize w2.alloc (Obj.cells #[.int .u8 (max g mc), .int .i64 (-1), .slice none 0 0] 80) = w3 at hG hb3 hz3 ⊢
    have hk3 := hk2.trans (hb3.mono (by omega))
    have hw3 := hw2.trans (hb3.mono (by omega))
    have hr3 := (hr0.below (hk3.mono (by omega)))
    have ht3 := ht0.below hk3 (by omega)
    clear t0 t1 t2
    refine (least_own_t (.agg #[.bool t.never, .int .u8 t.c, .slice A n cp]) t w3 w.heap.size ⟨A, n, cp, rfl, hr3⟩ (by omega) (by have := Hbig.out; omega)).mono ?_
    rintro e w4 ⟨A4, n4, c4, rfl, hr4, hb4, hf4⟩
    have ht4 := ht3.below hb4 (by omega)
    have hG4 := hG.below hb4 (by omega)
    have hw4 := hw3.trans (hb4.mono (by omega))
    have hz4 : w3.heap.size ≤ w4.heap.size := hb4.size
    have u0 : w4.cell? ⟨w.heap.size, 0, none⟩ = some (.bool t.never) := ht4.cell 0
    have u1 : w4.cell? ⟨w.heap.size, 1, none⟩ = some (.int .u8 t.c) := ht4.cell 1
    have u2 : w4.cell? ⟨w.heap.size, 2, none⟩ = some (.slice A n cp) := ht4.cell 2
    have v0 := ht4.frozen 0
    have v1 := ht4.frozen 1
    have v2 := ht4.frozen 2
    generalize leastT t = T at Hfit hr4 HT ⊢
    clear hb4 hG ht3 hr3 hk3 hw3 hb3
    go_wp2_with fail
    have hX := (((But.refl w4.heap.size w.heap.size w4).set 0 (.bool T.never)).set 1 (.int .u8 T.c)).set 2 (.slice A4 n4 c4)
    have hs5 := ht4.set3 (.bool T.never) (.int .u8 T.c) (.slice A4 n4 c4)
    have hw5 := hw4.trans (hX.below (by omega))
    have hz5 : w4.heap.size ≤ ((((w4.setCell ⟨w.heap.size, 0, none⟩ (.bool T.never)).setCell ⟨w.heap.size, 1, none⟩ (.int .u8 T.c)).setCell ⟨w.heap.size, 2, none⟩ (.slice A4 n4 c4))).heap.size := by simp
    have hG5 := hG4.but hX (by omega) (by omega)
    have hr5 := hX.rdI hr4 (fun a ha => by have := hf4 a ha; omega)
    generalize (((w4.setCell ⟨w.heap.size, 0, none⟩ (.bool T.never)).setCell ⟨w.heap.size, 1, none⟩ (.int .u8 T.c)).setCell ⟨w.heap.size, 2, none⟩ (.slice A4 n4 c4)) = w5 at hX hs5 hw5 hz5 hG5 hr5 ⊢
    have hL5 : LayW w5 w2.heap.size w4.heap.size (max g mc) (-1) [] := ⟨none, 0, hG5, World.ownsRow_nil _ _ _ _, by omega, by omega⟩
    clear hX u0 u1 u2 v0 v1 v2 hG4 ht4 hr4 hw4
    refine (put_any 0 T.c (max g mc) (-1) w2.heap.size w4.heap.size [] w5 hL5 (by simp)).mono ?_
    rintro e w6 ⟨rfl, hL6, hx6⟩
    rw [List.nil_append] at hL6
    have hs6 := hs5.but hx6 (by omega) (by omega)
    have p2 : w6.cell? ⟨w.heap.size, 2, none⟩ = some (.slice A4 n4 c4) := hs6.cell 2
    have Hr6 := Lib.hid (hx6.rdI hr5 (fun a ha => by have := hf4 a ha; omega))
    have Hw6 := Lib.hid (hw5.trans (hx6.below (by omega) |>.mono (by omega)))
    have HL6 := Lib.hid hL6
    have Hf4 := Lib.hid hf4
    have Hl := Lib.hid Hr6.out.len
    have hn63 : n4 ≤ 1000000000 := by have := Hl.out; have := HT.out; omega
    clear hL5 hs5 hG5 hr5 hx6 hs6 hL6 hf4 hw5
    go_wp2_with fail
    go_loopg [54] n4 (fun gh i wr => ∃ k : Nat, k ≤ n4 ∧ gh = n4 - k ∧ i = .int .i64 k ∧ Hid (LayW wr w2.heap.size w4.heap.size (max g mc) (-1) (putQ (max g mc) (-1) 0 T.c ++ putsV (max g mc) (-1) (T.vars.take k))) ∧ Hid (But w4.heap.size w2.heap.size w6 wr))
    case atStart => exact ⟨0, Nat.zero_le _, rfl, rfl, by rw [List.take_zero]; show Hid (LayW _ _ _ _ _ (_ ++ [])); rw [List.append_nil]; exact HL6, Lib.hid (But.refl _ _ _)⟩
    case round =>
      obtain ⟨k, hk, rfl, rfl, HL, HX⟩ := hrel
      by_cases hlk : k < n4
      · have hk' : k < T.vars.length := by rw [Hl.out]; exact hlk
        have hrr := HX.out.rdI Hr6.out (fun a ha => by have := Hf4.out a ha; omega)
        obtain ⟨b, off, rfl, hb, hcell⟩ := hrr.at_ (by omega)
        have q0 := hcell k hk'
        have htk : T.vars.take (k + 1) = T.vars.take k ++ [T.vars[k]] := by rw [List.take_succ_eq_append_getElem hk']
        have Htk := Lib.hid htk
        generalize T.vars[k] = V at q0 Htk
        have hlen : (putQ (max g mc) (-1) 0 T.c ++ putsV (max g mc) (-1) (T.vars.take k)).length ≤ 1099511627776 := by
          have h1 := putQ_len (max g mc) (-1) 0 T.c
          have h2 := putsV_len (max g mc) (-1) (T.vars.take k)
          have h3 : (T.vars.take k).length ≤ k := List.length_take_le _ _
          rw [List.length_append]
          omega
        have Hlen := Lib.hid hlen
        clear htk hcell hrr hlen
        go_wp2_with fail
        refine (put_any V 0 (max g mc) (-1) w2.heap.size w4.heap.size _ wr HL.out Hlen.out).mono ?_
        rintro e w7 ⟨rfl, hL7, hx7⟩
        have HL7 : Hid (LayW w7 w2.heap.size w4.heap.size (max g mc) (-1) (putQ (max g mc) (-1) 0 T.c ++ putsV (max g mc) (-1) (T.vars.take (k + 1)))) := by
          show LayW _ _ _ _ _ _
          rw [Htk.out, putsV_snoc, ← List.append_assoc]
          exact hL7
        have HX7 := Lib.hid (HX.out.trans hx7)
        clear hL7 hx7
        go_wp2_with fail
        go_roundg (n4 - (k + 1))
        case measure => omega
        case rel => exact ⟨k + 1, by omega, rfl, by go_num, HL7, HX7⟩
      · have hkn : k = n4 := by omega
        subst hkn
        have HL' : Hid (LayW wr w2.heap.size w4.heap.size (max g mc) (-1) (fitsQ t g mv mc)) := by
          show LayW _ _ _ _ _ _
          rw [Hfit.out]
          have := HL.out
          rw [List.take_of_length_le (by rw [Hl.out]; exact Nat.le_refl _)] at this
          exact this
        obtain ⟨A8, c8, hG8, ho8, -, -⟩ := HL'.out
        have p8 : wr.cell? ⟨w2.heap.size, 2, none⟩ = some (.slice A8 (fitsQ t g mv mc).length c8) := hG8.cell 2
        have Ho8 := Lib.hid ho8
        clear HL ho8 hG8
        go_wp2_with fail
        go_ret2
        exact ⟨A8, _, c8, rfl, IneqsV.of_own Ho8.out, Hw6.out.trans ((HX.out.below (by omega)).mono (by omega))⟩

end Go.Proofs.YtbccnfgceabopaaDoor
