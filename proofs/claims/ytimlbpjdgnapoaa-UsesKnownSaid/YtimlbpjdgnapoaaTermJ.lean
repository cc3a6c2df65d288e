/- The contracts of term.Least, term.At. -/
import Derived.Test.YtimlbpjdgnapoaaTermI
namespace Go.Proofs.Ytimlbpjdgnapoaa
set_option linter.unusedVariables false
set_option linter.unusedSimpArgs false
open Go.RowKit

theorem least_own_t (v : Value) (t : TermD) (w : World) (B : Nat) (hv : TermV w B v t) (hB : B ≤ w.heap.size) (hbig : t.vars.length * 8 ≤ 140737488355328) :
    Calls Try.prog 41 #[v] w fun e w' => ∃ A n c, e = .returned (.agg #[.bool (leastT t).never, .int .u8 (leastT t).c, .slice A n c]) ∧ RdI .i64 w' w'.heap.size A n c (leastT t).vars ∧ Below w.heap.size w w' ∧ ∀ a, A = some a → w.heap.size ≤ a.block := by
  obtain ⟨A, n, c, rfl, hr⟩ := hv
  obtain ⟨tn, tc, tv⟩ := t
  have hl := hr.len
  have hbel : Below w.heap.size w ((w.alloc (Obj.cells #[.bool tn, .int .u8 tc, .slice A n c] 37)).alloc (Obj.cells #[.bool false, .int .u8 0, .slice none 0 0] 37)) := ((Below.refl _ _).alloc (Nat.le_refl _) _).alloc (by simp) _
  cases tn
  · have hj : leastT ⟨false, tc, tv⟩ = ⟨false, tc, tv⟩ := rfl
    have Hj := Lib.hid hj
    have hq := cloneI_any A n c tv _ _ ((hr.more hB).below hbel) (by have : tv.length = n := hl; have h2 : tv.length * 8 ≤ 140737488355328 := hbig; omega)
    have Hq := Lib.hid hq
    clear hq hj hl hbig
    go_enter Try.func41, Try.ntmps41
    go_wp2_with fail
    refine Hq.out.mono ?_
    rintro e w1 ⟨A', c', rfl, hown, hb1⟩
    simp only [World.size_alloc] at hown hb1
    have hself : Blk w1 w.heap.size 37 #[.bool false, .int .u8 tc, .slice A n c] := by
      show w1.heap[w.heap.size]? = _
      rw [hb1.block _ (by omega), Below.heap_alloc _ _ _ (by simp)]
      exact heap_alloc_new w _
    have hself' : Blk w1 (w.heap.size + 1) 37 #[.bool false, .int .u8 0, .slice none 0 0] := by
      show w1.heap[w.heap.size + 1]? = _
      rw [hb1.block _ (by omega)]
      have := heap_alloc_new (w.alloc (Obj.cells #[.bool false, .int .u8 tc, .slice A n c] 37)) (Obj.cells #[.bool false, .int .u8 0, .slice none 0 0] 37)
      rw [World.size_alloc] at this
      exact this
    have hbel1 : Below w.heap.size w w1 := hbel.trans (hb1.mono (by omega))
    have c0 : w1.cell? ⟨w.heap.size, 0, none⟩ = some (.bool false) := hself.cell 0
    have c1 : w1.cell? ⟨w.heap.size, 1, none⟩ = some (.int .u8 tc) := hself.cell 1
    have c2 : w1.cell? ⟨w.heap.size, 2, none⟩ = some (.slice A n c) := hself.cell 2
    have f2 := hself.frozen 2
    have d0 : w1.cell? ⟨w.heap.size + 1, 0, none⟩ = some (.bool false) := hself'.cell 0
    have d1 : w1.cell? ⟨w.heap.size + 1, 1, none⟩ = some (.int .u8 0) := hself'.cell 1
    have d2 : w1.cell? ⟨w.heap.size + 1, 2, none⟩ = some (.slice none 0 0) := hself'.cell 2
    have g0 := hself'.frozen 0
    have g1 := hself'.frozen 1
    have g2 := hself'.frozen 2
    go_wp2_with fail
    have hs := (hself'.other (g' := w.heap.size) (by omega) 2 (.slice A' n c')).set3 (.bool false) (.int .u8 tc) (.slice A' n c')
    have ho := ownsRow_setCell_below (ownsRow_setCell_below (ownsRow_setCell_below (ownsRow_setCell_below hown (a := ⟨w.heap.size, 2, none⟩) (by show w.heap.size < _; omega) (.slice A' n c')) (a := ⟨w.heap.size + 1, 0, none⟩) (by show w.heap.size + 1 < _; omega) (.bool false)) (a := ⟨w.heap.size + 1, 1, none⟩) (by show w.heap.size + 1 < _; omega) (.int .u8 tc)) (a := ⟨w.heap.size + 1, 2, none⟩) (by show w.heap.size + 1 < _; omega) (.slice A' n c')
    have hb3 := (((hbel1.setCell (p := ⟨w.heap.size, 2, none⟩) (Nat.le_refl _) (.slice A' n c')).setCell (p := ⟨w.heap.size + 1, 0, none⟩) (Nat.le_succ _) (.bool false)).setCell (p := ⟨w.heap.size + 1, 1, none⟩) (Nat.le_succ _) (.int .u8 tc)).setCell (p := ⟨w.heap.size + 1, 2, none⟩) (Nat.le_succ _) (.slice A' n c')
    generalize ((((w1.setCell ⟨w.heap.size, 2, none⟩ (.slice A' n c')).setCell ⟨w.heap.size + 1, 0, none⟩ (.bool false)).setCell ⟨w.heap.size + 1, 1, none⟩ (.int .u8 tc)).setCell ⟨w.heap.size + 1, 2, none⟩ (.slice A' n c')) = W3 at hs ho hb3 ⊢
    have x0 : W3.cell? ⟨w.heap.size + 1, 0, none⟩ = some (.bool false) := hs.cell 0
    have x1 : W3.cell? ⟨w.heap.size + 1, 1, none⟩ = some (.int .u8 tc) := hs.cell 1
    have x2 : W3.cell? ⟨w.heap.size + 1, 2, none⟩ = some (.slice A' n c') := hs.cell 2
    exact bodyPost_ret (v := .agg #[.bool false, .int .u8 tc, .slice A' n c']) (by simp [results, Try.results41, go_sem, x0, x1, x2]) rfl ⟨A', n, c', rfl, RdI.of_own ho, hb3, fun a ha => by
      subst ha
      rcases ho.2 with ⟨e0, _⟩ | ⟨g, cap, cur, e0, hb, _⟩
      · cases e0
      · injection e0 with e1 _ _
        injection e1 with e1
        subst e1
        show w.heap.size ≤ g
        omega⟩
  · have hj : leastT ⟨true, tc, tv⟩ = ⟨false, 2, []⟩ := rfl
    have Hj := Lib.hid hj
    clear hj hl
    go_enter Try.func41, Try.ntmps41
    go_wp2_with fail
    have hb2 : Below w.heap.size w ((w.alloc (Obj.cells #[.bool true, .int .u8 tc, .slice A n c] 37)).alloc (Obj.cells #[.bool false, .int .u8 2, .slice none 0 0] 37)) := ((Below.refl _ _).alloc (Nat.le_refl _) _).alloc (by simp) _
    exact bodyPost_ret (v := .agg #[.bool false, .int .u8 2, .slice none 0 0]) (by simp [results, Try.results41, go_sem]) rfl ⟨none, 0, 0, rfl, RdI.nil, hb2, fun _ h => by cases h⟩
theorem least_any_t (v : Value) (t : TermD) (w : World) (B : Nat) (hv : TermV w B v t) (hB : B ≤ w.heap.size) (hbig : t.vars.length * 8 ≤ 140737488355328) :
    Calls Try.prog 41 #[v] w (RetT (leastT t) w) :=
  (least_own_t v t w B hv hB hbig).mono fun _ _ ⟨A, n, c, h1, h2, h3, _⟩ => ⟨A, n, c, h1, h2, h3⟩

theorem varsB_at (l : List Int) : ∀ n k, k < n → varsB l n = true → varB l k = true
  | 0, k, h, _ => absurd h (by omega)
  | n + 1, k, h, hf => by
    simp only [varsB, Bool.and_eq_true] at hf
    rcases Nat.lt_or_ge k n with h1 | h1
    · exact varsB_at l n k h1 hf.1
    · have : k = n := by omega
      subst this
      exact hf.2
theorem may_pos {t : TermD} (h : mayB t = true) (k : Nat) (hk : k < t.vars.length) : 0 ≤ t.vars[k] := by
  unfold mayB at h
  split at h
  · rw [Bool.and_eq_true, List.isEmpty_iff] at h
    rw [h.2] at hk
    simp at hk
  · rw [Bool.and_eq_true] at h
    have h1 := varsB_at _ _ k hk h.2
    unfold varB at h1
    rw [Bool.and_eq_true, Bool.and_eq_true, decide_eq_true_eq] at h1
    have h2 := h1.1.1
    rw [show t.vars.getD k 0 = t.vars[k] from by simp [List.getD, hk]] at h2
    exact h2

set_option maxHeartbeats 1000000 in
theorem at_any (v : Value) (t : TermD) (A' : Option Addr) (n' c' : Nat) (asg : List Int) (w : World) (B B' : Nat) (hv : TermV w B v t) (hB : B ≤ w.heap.size) (ha : RdI .u8 w B' A' n' c' asg) (hB' : B' ≤ w.heap.size) :
    Calls Try.prog 38 #[v, .slice A' n' c'] w fun e w' => e = .returned (.tuple #[.int .u8 (atR t asg).1, .int .i64 (atR t asg).2]) ∧ Below w.heap.size w w' := by
  obtain ⟨A, n, c, rfl, hr⟩ := hv
  have hl := hr.len
  have hla := ha.len
  have hn63 : n ≤ 9223372036854775807 := Nat.le_trans hr.2.1 hr.2.2
  have hbel : Below w.heap.size w (w.alloc (Obj.cells #[.bool t.never, .int .u8 t.c, .slice A n c] 37)) := (Below.refl _ _).alloc (Nat.le_refl _) _
  have hr1 := (hr.more hB).below hbel
  have ha1 := (ha.more hB').below hbel
  have hq := may_any (.agg #[.bool t.never, .int .u8 t.c, .slice A n c]) t _ w.heap.size ⟨A, n, c, rfl, hr1⟩ hbel.size
  have Hq := Lib.hid hq
  have Hl := Lib.hid hl
  have Hla := Lib.hid hla
  clear hq hl hla
  cases hm : mayB t
  · have hj : atR t asg = (0, 2) := by unfold atR; rw [hm]; rfl
    have Hj := Lib.hid hj
    have He := Lib.hid (mayE_no hm)
    clear hj hm
    go_enter Try.func38, Try.ntmps38
    go_wp2_with fail
    refine Hq.out.mono ?_; rintro e w1 ⟨rfl, hb1⟩
    rw [He.out]
    go_wp2_with fail
    go_ret2
    exact ⟨by rw [Hj.out]; rfl, hbel.trans (hb1.mono hbel.size)⟩
  · have hj : atR t asg = atGo asg t.c t.vars := by unfold atR; rw [hm]; rfl
    have Hj := Lib.hid hj
    have He := Lib.hid (mayE_yes hm)
    have Hpos := Lib.hid (may_pos hm)
    clear hj hm
    go_enter Try.func38, Try.ntmps38
    go_wp2_with fail
    refine Hq.out.mono ?_; rintro e w1 ⟨rfl, hb1⟩
    rw [He.out]
    have hself : Blk w1 w.heap.size 37 #[.bool t.never, .int .u8 t.c, .slice A n c] := by
      show w1.heap[w.heap.size]? = _
      rw [hb1.block _ (by simp)]
      exact heap_alloc_new w _
    have c0 : w1.cell? ⟨w.heap.size, 0, none⟩ = some (.bool t.never) := hself.cell 0
    have c1 : w1.cell? ⟨w.heap.size, 1, none⟩ = some (.int .u8 t.c) := hself.cell 1
    have c2 : w1.cell? ⟨w.heap.size, 2, none⟩ = some (.slice A n c) := hself.cell 2
    go_wp2_with fail
    have hbel1 : Below w.heap.size w w1 := hbel.trans (hb1.mono hbel.size)
    have hr2 := hr1.below (hb1.mono hbel.size)
    have ha2 := ha1.below (hb1.mono hbel.size)
    have Ha2 := Lib.hid ha2
    have Hr2 := Lib.hid hr2
    clear hr ha hr1 ha1 hbel hb1 hself c0 c1 c2 hr2 ha2 Hq He
    go_loopg [7, 20] n (fun g u i wr => ∃ (k : Nat) (x : Int), k ≤ n ∧ g = n - k ∧ i = .int .i64 k ∧ u = .int .u8 x ∧ Hid (atGo asg x (t.vars.drop k) = atGo asg t.c t.vars) ∧ w1 = wr)
    case atStart => exact ⟨0, t.c, Nat.zero_le _, rfl, rfl, rfl, Lib.hid rfl, rfl⟩
    case round =>
      obtain ⟨k, x, hk, rfl, rfl, rfl, Hx, rfl⟩ := hrel
      by_cases hlk : k < n
      · have hk' : k < t.vars.length := by rw [Hl.out]; exact hlk
        obtain ⟨b, off, rfl, hb, hcell⟩ := Hr2.out.at_ (by omega)
        have hc := hcell k hk'
        have hdrop : t.vars.drop k = t.vars[k] :: t.vars.drop (k + 1) := List.drop_eq_getElem_cons hk'
        obtain ⟨m, hm⟩ : ∃ m : Nat, t.vars[k] = (m : Int) := ⟨t.vars[k].toNat, (Int.toNat_of_nonneg (Hpos.out k hk')).symm⟩
        rw [hm] at hc hdrop
        have Hdrop := Lib.hid hdrop
        clear hdrop hm hcell
        by_cases hlt : m < n'
        · obtain ⟨b', off', rfl, hb', hcell'⟩ := Ha2.out.at_ (by omega)
          have hm' : m < asg.length := by rw [Hla.out]; exact hlt
          have hc' := hcell' m hm'
          have hav : atV asg m = asg[m] := by simp [atV, List.getD, hm']
          generalize asg[m] = y at hc' hav
          have Hav := Lib.hid hav
          clear hav hcell'
          have hml : ((m : Int) < asg.length) := by omega
          cases ho : oneB y
          · have H5 : Hid (atGo asg t.c t.vars = (0, 5)) := by
              show _ = _
              rw [← Hx.out, Hdrop.out]
              simp [atGo, okV, Hav.out, ho]
            have Ho := Lib.hid ho
            clear ho hml
            go_wp2_with (first | (refine (one_at _ _ Ho.out _).mono ?_; rintro e w2 ⟨rfl, rfl⟩))
            go_ret2
            exact ⟨by rw [Hj.out, H5.out]; rfl, hbel1⟩
          · have Hx' : Hid (atGo asg (scaleI y x) (t.vars.drop (k + 1)) = atGo asg t.c t.vars) := by
              show _ = _
              rw [← Hx.out, Hdrop.out]
              simp [atGo, okV, Hav.out, ho, hml]
            have Ho := Lib.hid ho
            clear ho hml
            go_wp2_with (first | (refine (one_at _ _ Ho.out _).mono ?_; rintro e w2 ⟨rfl, rfl⟩) | (go_at_call 39; refine (scale_any _ _ _).mono ?_; rintro e w2 ⟨rfl, rfl⟩))
            go_roundg (n - (k + 1))
            case measure => omega
            case rel => exact ⟨k + 1, scaleI y x, by omega, rfl, by go_num, rfl, Hx', rfl⟩
        · have H5 : Hid (atGo asg t.c t.vars = (0, 5)) := by
            show _ = _
            rw [← Hx.out, Hdrop.out]
            have : ¬ ((m : Int) < asg.length) := by have := Hla.out; omega
            simp [atGo, okV, this]
          have hge : n' ≤ m := by omega
          clear hlt
          go_wp2_with fail
          go_ret2
          exact ⟨by rw [Hj.out, H5.out]; rfl, hbel1⟩
      · have hkn : k = n := by omega
        subst hkn
        have H5 : Hid (atGo asg t.c t.vars = (x, 0)) := by
          show _ = _
          rw [← Hx.out, List.drop_of_length_le (by rw [Hl.out]; exact Nat.le_refl _)]
          rfl
        go_wp2_with fail
        go_ret2
        exact ⟨by rw [Hj.out, H5.out]; rfl, hbel1⟩

end Go.Proofs.Ytimlbpjdgnapoaa
