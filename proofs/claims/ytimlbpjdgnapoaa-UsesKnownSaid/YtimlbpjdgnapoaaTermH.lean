/- The contract of term.Sum. -/
import Derived.Test.YtimlbpjdgnapoaaTermG
namespace Go.Proofs.Ytimlbpjdgnapoaa
set_option linter.unusedVariables false
set_option linter.unusedSimpArgs false
open Go.RowKit

set_option maxHeartbeats 1000000 in
theorem sum_no (A : Option Addr) (n c : Nat) (ts : List TermD) (w : World) (hr : TermsV w w.heap.size A n c ts) (hno : allMay ts = false) :
    Calls Try.prog 45 #[.slice A n c] w (RetTE zeroT 2 w) := by
  have Hno := Lib.hid hno
  clear hno
  have hbel : Below w.heap.size w (w.alloc (Obj.cells #[.bool false, .int .u8 0, .slice none 0 0] 37)) := (Below.refl _ _).alloc (Nat.le_refl _) _
  have hr1 := (hr.below hbel).more (B' := (w.alloc (Obj.cells #[.bool false, .int .u8 0, .slice none 0 0] 37)).heap.size) hbel.size
  go_enter Try.func45, Try.ntmps45
  go_wp2_with fail
  refine (mays_any A n c ts _ hr1).mono ?_; rintro e w1 ⟨rfl, hb1⟩
  rw [Hno.out]
  have hb1' := hb1
  simp only [World.size_alloc] at hb1'
  have hself : Blk w1 w.heap.size 37 #[.bool false, .int .u8 0, .slice none 0 0] := by
    show w1.heap[w.heap.size]? = _
    rw [hb1'.block _ (Nat.lt_succ_self _)]
    exact heap_alloc_new w _
  have hbel1 : Below w.heap.size w w1 := hbel.trans (hb1.mono hbel.size)
  have c0 : w1.cell? ⟨w.heap.size, 0, none⟩ = some (.bool false) := hself.cell 0
  have c1 : w1.cell? ⟨w.heap.size, 1, none⟩ = some (.int .u8 0) := hself.cell 1
  have c2 : w1.cell? ⟨w.heap.size, 2, none⟩ = some (.slice none 0 0) := hself.cell 2
  have f0 := hself.frozen 0
  have f1 := hself.frozen 1
  have f2 := hself.frozen 2
  clear hb1 hb1' hr hr1 hbel
  go_wp2_with fail
  have hs := hself.set3 (.bool false) (.int .u8 0) (.slice none 0 0)
  have hb3 := ((hbel1.setCell (p := ⟨w.heap.size, 0, none⟩) (Nat.le_refl _) (.bool false)).setCell (p := ⟨w.heap.size, 1, none⟩) (Nat.le_refl _) (.int .u8 0)).setCell (p := ⟨w.heap.size, 2, none⟩) (Nat.le_refl _) (.slice none 0 0)
  generalize (((w1.setCell ⟨w.heap.size, 0, none⟩ (.bool false)).setCell ⟨w.heap.size, 1, none⟩ (.int .u8 0)).setCell ⟨w.heap.size, 2, none⟩ (.slice none 0 0)) = W3 at hs hb3 ⊢
  have d0 : W3.cell? ⟨w.heap.size, 0, none⟩ = some (.bool false) := hs.cell 0
  have d1 : W3.cell? ⟨w.heap.size, 1, none⟩ = some (.int .u8 0) := hs.cell 1
  have d2 : W3.cell? ⟨w.heap.size, 2, none⟩ = some (.slice none 0 0) := hs.cell 2
  exact bodyPost_ret (v := .tuple #[.agg #[.bool false, .int .u8 0, .slice none 0 0], .int .i64 2]) (by simp [results, Try.results45, go_sem, d0, d1, d2]) rfl ⟨none, 0, 0, rfl, RdI.nil, hb3⟩

set_option maxHeartbeats 2000000 in
theorem sum_yes (A : Option Addr) (n c : Nat) (ts : List TermD) (w : World) (hr : TermsV w w.heap.size A n c ts) (hyes : allMay ts = true) (hn : n ≤ 1099511627776) (hsum : ∀ t ∈ ts, t.vars.length ≤ 1099511627776) :
    Calls Try.prog 45 #[.slice A n c] w (RetTE (sumT ts) 0 w) := by
  have Hyes := Lib.hid hyes
  clear hyes
  have hlen := hr.1
  have Hlen := Lib.hid hlen
  clear hlen
  have hbel : Below w.heap.size w (w.alloc (Obj.cells #[.bool false, .int .u8 0, .slice none 0 0] 37)) := (Below.refl _ _).alloc (Nat.le_refl _) _
  have hr1 := (hr.below hbel).more (B' := (w.alloc (Obj.cells #[.bool false, .int .u8 0, .slice none 0 0] 37)).heap.size) hbel.size
  go_enter Try.func45, Try.ntmps45
  go_wp2_with fail
  refine (mays_any A n c ts _ hr1).mono ?_; rintro e w1 ⟨rfl, hb1⟩
  rw [Hyes.out]
  have hr2 := (hr1.below hb1).more hb1.size
  simp only [World.size_alloc] at hb1
  have hself1 : Blk w1 w.heap.size 37 #[.bool false, .int .u8 0, .slice none 0 0] := by
    show w1.heap[w.heap.size]? = _
    rw [hb1.block _ (Nat.lt_succ_self _)]
    exact heap_alloc_new w _
  have hbel1 : Below w.heap.size w w1 := hbel.trans (hb1.mono (Nat.le_succ _))
  have hg1 : w.heap.size < w1.heap.size := hself1.lt
  clear hb1 hr hr1 hbel
  go_wp2_with fail
  refine (clone_any A n c ts _ hr2 (by omega)).mono ?_
  rintro e w2 ⟨v1, rfl, hown1, hf1, hb2⟩
  go_wp2_with fail
  refine (delete_any _ _ enters_sum pred_sum w1.heap.size w1.heap.size n v1 ts _ hown1 (Nat.le_refl _) hb2.size hf1).mono ?_
  rintro e w3 ⟨v2, m, rfl, hf2, hown2, hb3⟩
  obtain ⟨A2, c2, rfl⟩ : ∃ A2 c2, v2 = .slice A2 m c2 := by
    rcases hf2 with ⟨rfl, rfl⟩ | ⟨g, c, rfl⟩
    · exact ⟨none, 0, rfl⟩
    · exact ⟨some ⟨g, 0, none⟩, c, rfl⟩
  have hb23 : Below w1.heap.size w1 w3 := hb2.trans hb3
  have hself3 := hself1.below hb23 hg1
  have hbel3 : Below w.heap.size w w3 := hbel1.trans (hb23.mono hbel1.size)
  have hts := (hown2.terms (Nat.le_trans hb2.size hb3.size)).2
  have hlen2 : (someT ts).length = m := hown2.1
  have Hlen2 := Lib.hid hlen2
  have hge : ∀ b off, A2 = some ⟨b, off, none⟩ → w1.heap.size ≤ b := by
    intro b off e
    obtain ⟨_, cs, ho, _⟩ := hown2
    exact (ho.lt b (by rw [e]; rfl)).1
  have Hge := Lib.hid hge
  clear hge
  have hmn : m ≤ n := by rw [← hlen2, ← Hlen.out]; exact List.length_filter_le _ _
  have hg1' := hg1
  clear hlen2 hown1 hown2 hf1 hf2 hb2 hb3 hb23 hself1 hbel1 hg1 hr2
  have hsom : someT ts = (ts.filter fun t => !(fun t : TermD => t.never) t) := rfl
  rw [← hsom] at hts
  clear hsom
  have c0 : w3.cell? ⟨w.heap.size, 0, none⟩ = some (.bool false) := hself3.cell 0
  have c1 : w3.cell? ⟨w.heap.size, 1, none⟩ = some (.int .u8 0) := hself3.cell 1
  have c2' : w3.cell? ⟨w.heap.size, 2, none⟩ = some (.slice none 0 0) := hself3.cell 2
  have f0 := hself3.frozen 0
  have f1 := hself3.frozen 1
  have f2 := hself3.frozen 2
  by_cases hm0 : m = 0
  · subst hm0
    have hj : sumT ts = ⟨true, 0, []⟩ := by unfold sumT; rw [List.eq_nil_of_length_eq_zero Hlen2.out]
    have Hj := Lib.hid hj
    clear hj
    go_wp2_with fail
    have hs := hself3.set3 (.bool true) (.int .u8 0) (.slice none 0 0)
    have hb3 := ((hbel3.setCell (p := ⟨w.heap.size, 0, none⟩) (Nat.le_refl _) (.bool true)).setCell (p := ⟨w.heap.size, 1, none⟩) (Nat.le_refl _) (.int .u8 0)).setCell (p := ⟨w.heap.size, 2, none⟩) (Nat.le_refl _) (.slice none 0 0)
    generalize (((w3.setCell ⟨w.heap.size, 0, none⟩ (.bool true)).setCell ⟨w.heap.size, 1, none⟩ (.int .u8 0)).setCell ⟨w.heap.size, 2, none⟩ (.slice none 0 0)) = W3 at hs hb3 ⊢
    have d0 : W3.cell? ⟨w.heap.size, 0, none⟩ = some (.bool true) := hs.cell 0
    have d1 : W3.cell? ⟨w.heap.size, 1, none⟩ = some (.int .u8 0) := hs.cell 1
    have d2 : W3.cell? ⟨w.heap.size, 2, none⟩ = some (.slice none 0 0) := hs.cell 2
    exact bodyPost_ret (v := .tuple #[.agg #[.bool true, .int .u8 0, .slice none 0 0], .int .i64 0]) (by simp [results, Try.results45, go_sem, d0, d1, d2]) rfl (by rw [Hj.out]; exact ⟨none, 0, 0, rfl, RdI.nil, hb3⟩)
  · by_cases hm1 : m = 1
    · subst hm1
      obtain ⟨t, ht⟩ : ∃ t, someT ts = [t] := List.length_eq_one_iff.1 Hlen2.out
      have hj : sumT ts = cleanT t.c t.vars := by unfold sumT; rw [ht]
      have Hj := Lib.hid hj
      clear hj
      have htm : t ∈ ts := by
        have h1 : t ∈ someT ts := by rw [ht]; simp
        exact (List.mem_filter.1 (show t ∈ ts.filter (fun t => !t.never) from h1)).1
      have hln := hsum t htm
      rw [ht] at hts
      obtain ⟨b, off, rfl, hb, hcell⟩ := hts.2.2.2 (by omega)
      have hbne : b ≠ w.heap.size := by have := Hge.out b off rfl; omega
      obtain ⟨A', n', c', e0, e1, e2, hr'⟩ := hcell 0 (by simp)
      rw [Nat.zero_mul, Nat.add_zero] at e0 e1 e2
      simp only [List.getElem_cons_zero] at e0 e1 e2 hr'
      have hl8 : n' * 8 ≤ 140737488355328 := by rw [← hr'.len]; omega
      have Hl8 := Lib.hid hl8
      have Hr := Lib.hid hr'
      clear hr' hcell hts htm hsum hl8 ht hln c0 c1 c2' f0 f1 f2
      go_wp2_with fail
      go_region_held3 (fun w' => w'.cell? ⟨b, off + 1, none⟩ = some (.int .u8 t.c) ∧ w'.cell? ⟨b, off + 2, none⟩ = some (.slice A' n' c'))
        (first | go_keep | exact ⟨e1, e2⟩ | exact ⟨(hb7.cell (p := ⟨b, off + 1, none⟩) hb).trans e1, (hb7.cell (p := ⟨b, off + 2, none⟩) hb).trans e2⟩ | exact ⟨(set3_other _ _ hbne _ _ _).trans ((hb7.cell (p := ⟨b, off + 1, none⟩) hb).trans e1), (set3_other _ _ hbne _ _ _).trans ((hb7.cell (p := ⟨b, off + 2, none⟩) hb).trans e2)⟩)
        ((go_at_call 73; refine (clean_any t.c A' n' c' t.vars w3.drew w3.heap.size (Hr.out.keep (w' := w3.drew) fun _ _ => rfl) (Nat.le_refl _) Hl8.out).mono ?_; rintro e w5 ⟨A7, n7, c7, rfl, hr7, hb7⟩;
          replace hb7 : Below w3.heap.size w3 w5 := ((Below.refl _ _).drew).trans hb7; have hs5 := hself3.below hb7 hself3.lt; have hb5 := hbel3.trans (hb7.mono hbel3.size); generalize cleanT t.c t.vars = T at Hj hr7;
          have g0 : w5.cell? ⟨w.heap.size, 0, none⟩ = some (.bool false) := hs5.cell 0; have g1 : w5.cell? ⟨w.heap.size, 1, none⟩ = some (.int .u8 0) := hs5.cell 1; have g2 : w5.cell? ⟨w.heap.size, 2, none⟩ = some (.slice none 0 0) := hs5.cell 2;
          have p0 := hs5.frozen 0; have p1 := hs5.frozen 1; have p2 := hs5.frozen 2))
      have Hr7 := Lib.hid hr7
      clear hr7 hself3 hbel3 hb7 Hr
      try go_wp2_with fail
      have hs := hs5.set3 (.bool T.never) (.int .u8 T.c) (.slice A7 n7 c7)
      have hb3 := ((hb5.setCell (p := ⟨w.heap.size, 0, none⟩) (Nat.le_refl _) (.bool T.never)).setCell (p := ⟨w.heap.size, 1, none⟩) (Nat.le_refl _) (.int .u8 T.c)).setCell (p := ⟨w.heap.size, 2, none⟩) (Nat.le_refl _) (.slice A7 n7 c7)
      have hr8 := Hr7.out.put3 hs5 (.bool T.never) (.int .u8 T.c) (.slice A7 n7 c7)
      have hr9 := hr8.more (B' := (((w5.setCell ⟨w.heap.size, 0, none⟩ (.bool T.never)).setCell ⟨w.heap.size, 1, none⟩ (.int .u8 T.c)).setCell ⟨w.heap.size, 2, none⟩ (.slice A7 n7 c7)).heap.size) (by simp)
      generalize (((w5.setCell ⟨w.heap.size, 0, none⟩ (.bool T.never)).setCell ⟨w.heap.size, 1, none⟩ (.int .u8 T.c)).setCell ⟨w.heap.size, 2, none⟩ (.slice A7 n7 c7)) = W3 at hs hb3 hr8 hr9 ⊢
      have d0 : W3.cell? ⟨w.heap.size, 0, none⟩ = some (.bool T.never) := hs.cell 0
      have d1 : W3.cell? ⟨w.heap.size, 1, none⟩ = some (.int .u8 T.c) := hs.cell 1
      have d2 : W3.cell? ⟨w.heap.size, 2, none⟩ = some (.slice A7 n7 c7) := hs.cell 2
      exact bodyPost_ret (v := .tuple #[.agg #[.bool T.never, .int .u8 T.c, .slice A7 n7 c7], .int .i64 0]) (by simp [results, Try.results45, go_sem, d0, d1, d2]) rfl (by rw [Hj.out]; exact ⟨A7, n7, c7, rfl, hr9, hb3⟩)
    · have hj : sumT ts = ⟨false, 3, []⟩ := by
        unfold sumT
        have := Hlen2.out
        split
        · rename_i h; rw [h] at this; simp at this; omega
        · rename_i h; rw [h] at this; simp at this; omega
        · rfl
      have Hj := Lib.hid hj
      have hz0 : ((m : Int) == 0) = false := beq_eq_false_iff_ne.2 (by omega)
      have hz1 : ((m : Int) == 1) = false := beq_eq_false_iff_ne.2 (by omega)
      clear hj hts hsum
      go_wp2_with fail
      have hs := hself3.set3 (.bool false) (.int .u8 3) (.slice none 0 0)
      have hb3 := ((hbel3.setCell (p := ⟨w.heap.size, 0, none⟩) (Nat.le_refl _) (.bool false)).setCell (p := ⟨w.heap.size, 1, none⟩) (Nat.le_refl _) (.int .u8 3)).setCell (p := ⟨w.heap.size, 2, none⟩) (Nat.le_refl _) (.slice none 0 0)
      generalize (((w3.setCell ⟨w.heap.size, 0, none⟩ (.bool false)).setCell ⟨w.heap.size, 1, none⟩ (.int .u8 3)).setCell ⟨w.heap.size, 2, none⟩ (.slice none 0 0)) = W3 at hs hb3 ⊢
      have d0 : W3.cell? ⟨w.heap.size, 0, none⟩ = some (.bool false) := hs.cell 0
      have d1 : W3.cell? ⟨w.heap.size, 1, none⟩ = some (.int .u8 3) := hs.cell 1
      have d2 : W3.cell? ⟨w.heap.size, 2, none⟩ = some (.slice none 0 0) := hs.cell 2
      exact bodyPost_ret (v := .tuple #[.agg #[.bool false, .int .u8 3, .slice none 0 0], .int .i64 0]) (by simp [results, Try.results45, go_sem, d0, d1, d2]) rfl (by rw [Hj.out]; exact ⟨none, 0, 0, rfl, RdI.nil, hb3⟩)

end Go.Proofs.Ytimlbpjdgnapoaa
