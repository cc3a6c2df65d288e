/- The contract of (*writer).put: a function. -/
import Derived.Test.YtidamlkekgnhgaaDoorTyU
namespace Go.Proofs.YtidamlkekgnhgaaDoor
set_option linter.unusedVariables false
set_option linter.unusedSimpArgs false
open Go.RowKit

/-- where the loop over a function's two types stands -/
def FunR (B b : Nat) (nm : Value) (l T0 T : List UInt8) (W : World) (g : Nat) (i : Value) (wr : World) : Prop :=
  (g = 2 ∧ i = .int .i64 0 ∧ wr = W) ∨ (g = 1 ∧ i = .int .i64 1 ∧ WrOut B b nm (Lib.byteCells (l ++ T0)) W wr) ∨ (g = 0 ∧ i = .int .i64 2 ∧ WrOut B b nm (Lib.byteCells (l ++ T)) W wr)
theorem mark_num (v : Int) : ((((⟨#[32, 45]⟩ : ByteArray) ++ (⟨#[109]⟩ ++ numT v)) ++ ⟨#[62, 32]⟩).data.toList) = txMark v 0 := by
  unfold txMark numT
  rw [if_pos rfl]
  simp
theorem mark_one (v : Int) {c : Int} (h : c ≠ 0) : ((((⟨#[32, 45]⟩ : ByteArray) ++ mtext c) ++ ⟨#[62, 32]⟩).data.toList) = txMark v c := by
  unfold txMark
  rw [if_neg h]
  simp

set_option maxRecDepth 100000 in
set_option maxHeartbeats 1000000 in
theorem put_fun {w0 : World} {b : Nat} {nm : Value} {ws : List ByteArray} (n v c : Int) (x0 x1 : TyD) (A : Option Addr) (m cp : Nat) (ht : Tab w0) (hm : isB c v = true) (hl : TysV w0 w0.heap.size A m cp [x0, x1])
    (hp : ∀ x ∈ [x0, x1], ∀ A m cp, TysV w0 w0.heap.size A m cp x.l → PutAt w0 b nm ws x A m cp) : PutAt w0 b nm ws (.mk 7 n v c [x0, x1]) A m cp := by
  intro w l hbel hw hlen
  show Calls Tryd.prog 41 #[.pointer (some ⟨b, 0, none⟩), .agg #[.int .u8 7, .int .i64 n, .int .i64 v, .int .u8 c, .slice A m cp]] w _
  have hbx := below_box (w := w) (Obj.cells #[.int .u8 7, .int .i64 n, .int .i64 v, .int .u8 c, .slice A m cp] 27)
  have hz := blk_new w #[.int .u8 7, .int .i64 n, .int .i64 v, .int .u8 c, .slice A m cp] 27
  have hw1 := hw.alloc (Obj.cells #[.int .u8 7, .int .i64 n, .int .i64 v, .int .u8 c, .slice A m cp] 27)
  have hne : some w.heap.size ≠ some b := by have := hw.lt; simp; omega
  have hzl := hz.lt
  obtain ⟨W, hW⟩ : ∃ W, w.alloc (Obj.cells #[.int .u8 7, .int .i64 n, .int .i64 v, .int .u8 c, .slice A m cp] 27) = W := ⟨_, rfl⟩
  rw [hW] at hbx hz hw1 hzl
  have hbel1 := hbel.trans (hbx.mono hbel.size)
  have HW := Lib.hid hW
  have Hw1 := Lib.hid hw1
  have Hbx := Lib.hid hbx
  have Hz := Lib.hid hz
  have Hlen := Lib.hid hlen
  have hB := hbel.size
  have hB1 := hbel1.size
  have Hb1 := Lib.hid hbel1
  clear hW hw1 hbx hbel1 hbel hw hlen
  obtain rfl : m = 2 := hl.len.symm
  have htx : txB ws (.mk 7 n v c [x0, x1]) = txPar (x0.k == 7) (txB ws x0) ++ (txMark v c ++ txPar false (txB ws x1)) := by
    rw [txB_eq]
    show txB.funL ws (txMark v c) 0 [x0, x1] = _
    simp [txB.funL, txPar]
  obtain ⟨T0, hT0⟩ : ∃ T, txPar (x0.k == 7) (txB ws x0) = T := ⟨_, rfl⟩
  obtain ⟨T1, hT1⟩ : ∃ T, txPar false (txB ws x1) = T := ⟨_, rfl⟩
  obtain ⟨M, hM⟩ : ∃ T, txMark v c = T := ⟨_, rfl⟩
  rw [htx, hT0, hT1, hM] at Hlen ⊢
  have hlen := Hlen.out
  rw [List.length_append, List.length_append] at hlen
  have HT0 := Lib.hid hT0
  have HT1 := Lib.hid hT1
  have HM := Lib.hid hM
  have HL := Lib.hid hl
  have Hp := Lib.hid hp
  have Hm := Lib.hid hm
  have Ht := Lib.hid ht
  have z0 := Hz.out.cell 0
  have z4 := Hz.out.cell 4
  clear hT0 hT1 hM htx hl hp hm ht
  go_enter Tryd.func41, Tryd.ntmps41
  go_wp2_with fail
  rw [HW.out]
  go_wp2_with fail
  clear z0 z4
  go_loopg [105] 2 (fun g i wr => FunR w0.heap.size b nm l T0 (T0 ++ (M ++ T1)) W g i wr)
  case atStart => exact .inl ⟨rfl, rfl, rfl⟩
  case round =>
    rcases hrel with ⟨rfl, rfl, rfl⟩ | ⟨rfl, rfl, hq⟩ | ⟨rfl, rfl, hq⟩
    · obtain ⟨bb, off, rfl, hbb, hc⟩ := HL.out.at_ (by omega)
      obtain ⟨e0', e1', e2', e3', Ax, mx, cx, e4', hx⟩ := tyAt_iff.1 (hc 0 (by simp))
      have hlt : bb < w0.heap.size := hbb
      have hcW : ∀ j, wr.cell? ⟨bb, j, none⟩ = w0.cell? ⟨bb, j, none⟩ := fun j => Hb1.out.cell (p := ⟨bb, j, none⟩) hlt
      have e0 := (hcW _).trans e0'
      have e1 := (hcW _).trans e1'
      have e2 := (hcW _).trans e2'
      have e3 := (hcW _).trans e3'
      have e4 := (hcW _).trans e4'
      simp only [List.getElem_cons_zero, Nat.zero_mul, Nat.add_zero] at e0 e1 e2 e3 e4 hx
      have hbA := below_box (w := wr) (Obj.cells #[.int .u8 x0.k, .int .i64 x0.n, .int .i64 x0.v, .int .u8 x0.c, .slice Ax mx cx] 27)
      have hin := in_any (Hp.out x0 (by simp) Ax mx cx hx) (x0.k == 7) _ l (Hb1.out.trans (hbA.mono hB1)) (Hw1.out.below hbA) (by rw [HT0.out]; omega)
      rw [HT0.out] at hin
      have Hin := Lib.hid hin
      have HbA := Lib.hid hbA
      clear e0' e1' e2' e3' e4' hcW hc hin hbA hx
      obtain ⟨kk, hkk⟩ : ∃ r, (x0.k == 7) = r := ⟨_, rfl⟩
      rw [hkk] at Hin
      go_wp2_with fail
      refine Hin.out.mono ?_
      rintro e w2 ⟨rfl, h2⟩
      go_wp2_with fail
      go_roundg 1
      case measure => omega
      case rel => exact .inr (.inl ⟨rfl, by go_num, h2.behind HbA.out hB1⟩)
    · have hbw := Hb1.out.trans hq.2.1
      have hzr := Hz.out.others hq.2.2 hne (by decide)
      obtain ⟨bb, off, rfl, hbb, hc⟩ := HL.out.at_ (by omega)
      obtain ⟨e0', e1', e2', e3', Ax, mx, cx, e4', hx⟩ := tyAt_iff.1 (hc 1 (by simp))
      have hcW : ∀ j, wr.cell? ⟨bb, j, none⟩ = w0.cell? ⟨bb, j, none⟩ := fun j => hbw.cell (p := ⟨bb, j, none⟩) hbb
      have e0 := (hcW _).trans e0'
      have e1 := (hcW _).trans e1'
      have e2 := (hcW _).trans e2'
      have e3 := (hcW _).trans e3'
      have e4 := (hcW _).trans e4'
      simp only [List.getElem_cons_zero, List.getElem_cons_succ, Nat.one_mul] at e0 e1 e2 e3 e4 hx
      have hbA := below_box (w := wr) (Obj.cells #[.int .u8 x1.k, .int .i64 x1.n, .int .i64 x1.v, .int .u8 x1.c, .slice Ax mx cx] 27)
      have hnb := blk_new wr #[.int .u8 x1.k, .int .i64 x1.n, .int .i64 x1.v, .int .u8 x1.c, .slice Ax mx cx] 27
      have hne2 : some wr.heap.size ≠ some b := by have := hq.is.lt; simp; omega
      have hz2 := hzr.below hbA hzr.lt
      have q2 : (wr.alloc (Obj.cells #[.int .u8 x1.k, .int .i64 x1.n, .int .i64 x1.v, .int .u8 x1.c, .slice Ax mx cx] 27)).cell? ⟨w.heap.size, 2, none⟩ = some (.int .i64 v) := hz2.cell 2
      have hv : 0 ≤ v ∧ v < 1048576 := by
        have h := Hm.out
        unfold isB oneB at h
        simp only [Bool.or_eq_true, Bool.and_eq_true, beq_iff_eq, decide_eq_true_eq] at h
        omega
      have hi := itoa_any v (by omega) (by omega) _ (Ht.out.below (hbw.trans (hbA.mono hbw.size)))
      have hnl : (numT v).size ≤ 21 := numT_size _ (by omega) (by omega)
      have Hi := Lib.hid hi
      have HbA := Lib.hid hbA
      have Hbw := Lib.hid hbw
      have Hnb := Lib.hid hnb
      have Hne2 := Lib.hid hne2
      have Hz2 := Lib.hid hz2
      have Hpx := Lib.hid (Hp.out x1 (by simp) Ax mx cx hx)
      have Hw2 := Lib.hid hq.is
      have Hq := Lib.hid hq
      clear e0' e1' e2' e3' e4' hcW hc hbA hx hi hbw hzr hnb hne2 hz2 hq
      go_wp2_with fail
      refine Hi.out.mono ?_
      rintro e w3 ⟨rfl, hb3⟩
      have hz3 := Hz2.out.below hb3 Hz2.out.lt
      have q3 : w3.cell? ⟨w.heap.size, 3, none⟩ = some (.int .u8 c) := hz3.cell 3
      by_cases hc0 : c = 0
      · have hmk := mark_num v
        subst hc0
        clear hz3
        have hwS := wrS ((((⟨#[32, 45]⟩ : ByteArray) ++ (⟨#[109]⟩ ++ numT v)) ++ ⟨#[62, 32]⟩)) ((IsWr.below (Hw2.out.below HbA.out) hb3)) (by rw [hmk, HM.out]; simp only [List.length_append]; omega) (Nat.le_trans (Nat.le_trans Hbw.out.size HbA.out.size) hb3.size)
        rw [hmk, HM.out] at hwS
        have HwS := Lib.hid hwS
        have hn3 := Hnb.out.below hb3 Hnb.out.lt
        have Hn3 := Lib.hid hn3
        have Hb3 := Lib.hid hb3
        clear hwS hn3 hb3
        go_wp2_with fail
        refine HwS.out.mono ?_
        rintro e w4 ⟨rfl, h4⟩
        have hn4 := Hn3.out.others h4.2.2 Hne2.out (by decide)
        have y0 := hn4.cell 0
        have y1 := hn4.cell 1
        have y2 := hn4.cell 2
        have y3 := hn4.cell 3
        have y4 := hn4.cell 4
        have h5 := h4.behind (Hb3.out) (Nat.le_trans Hbw.out.size HbA.out.size)
        have hin := in_any Hpx.out false w4 (l ++ T0 ++ M) ((Hbw.out.trans (HbA.out.mono Hbw.out.size)).trans h5.2.1) h4.is (by rw [HT1.out]; simp only [List.length_append]; omega)
        rw [HT1.out] at hin
        have Hin := Lib.hid hin
        have H5 := Lib.hid h5
        clear hin h5 hn4 h4 HwS
        go_wp2_with fail
        refine Hin.out.mono ?_
        rintro e w5 ⟨rfl, h6⟩
        have H6 := Lib.hid h6
        clear h6
        go_wp2_with fail
        go_roundg 0
        case measure => omega
        case rel =>
          have h7 := (H5.out.trans H6.out).behind HbA.out Hbw.out.size
          rw [List.append_assoc, List.append_assoc] at h7
          exact .inr (.inr ⟨rfl, by go_num, Hq.out.trans h7⟩)
      · have hmk := mark_one v hc0
        have cne : (c == 0) = false := by simp [hc0]
        have hml := mtext_size c
        go_wp2_with fail
        refine (text_any c w3).mono ?_
        rintro e w6 ⟨rfl, hb6⟩
        have hb7 := hb3.trans (hb6.mono hb3.size)
        clear hb3 hb6 hz3
        have hwS := wrS ((((⟨#[32, 45]⟩ : ByteArray) ++ mtext c) ++ ⟨#[62, 32]⟩)) ((IsWr.below (Hw2.out.below HbA.out) hb7)) (by rw [hmk, HM.out]; simp only [List.length_append]; omega) (Nat.le_trans (Nat.le_trans Hbw.out.size HbA.out.size) hb7.size)
        rw [hmk, HM.out] at hwS
        have HwS := Lib.hid hwS
        have hn3 := Hnb.out.below hb7 Hnb.out.lt
        have Hn3 := Lib.hid hn3
        have Hb3 := Lib.hid hb7
        clear hwS hn3 hb7
        go_wp2_with fail
        refine HwS.out.mono ?_
        rintro e w4 ⟨rfl, h4⟩
        have hn4 := Hn3.out.others h4.2.2 Hne2.out (by decide)
        have y0 := hn4.cell 0
        have y1 := hn4.cell 1
        have y2 := hn4.cell 2
        have y3 := hn4.cell 3
        have y4 := hn4.cell 4
        have h5 := h4.behind (Hb3.out) (Nat.le_trans Hbw.out.size HbA.out.size)
        have hin := in_any Hpx.out false w4 (l ++ T0 ++ M) ((Hbw.out.trans (HbA.out.mono Hbw.out.size)).trans h5.2.1) h4.is (by rw [HT1.out]; simp only [List.length_append]; omega)
        rw [HT1.out] at hin
        have Hin := Lib.hid hin
        have H5 := Lib.hid h5
        clear hin h5 hn4 h4 HwS
        go_wp2_with fail
        refine Hin.out.mono ?_
        rintro e w5 ⟨rfl, h6⟩
        have H6 := Lib.hid h6
        clear h6
        go_wp2_with fail
        go_roundg 0
        case measure => omega
        case rel =>
          have h7 := (H5.out.trans H6.out).behind HbA.out Hbw.out.size
          rw [List.append_assoc, List.append_assoc] at h7
          exact .inr (.inr ⟨rfl, by go_num, Hq.out.trans h7⟩)
    · go_wp2_with fail
      go_end0
      exact ⟨rfl, hq.behind Hbx.out hB⟩
end Go.Proofs.YtidamlkekgnhgaaDoor
