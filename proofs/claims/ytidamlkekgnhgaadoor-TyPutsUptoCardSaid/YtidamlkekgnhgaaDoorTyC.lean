/- The contract of ty.is. -/
import Derived.Test.YtidamlkekgnhgaaDoorTyB
namespace Go.Proofs.YtidamlkekgnhgaaDoor
set_option linter.unusedVariables false
set_option linter.unusedSimpArgs false
open Go.RowKit

def mostI (k : Int) : Int := if k = 1 then 1048576 else if k = 8 then 40 else 1
/-- is a node one? -/
def isN (t : TyD) : Bool :=
  decide (1 ≤ t.k) && decide (t.k ≤ 8) && decide (0 ≤ t.n) && decide (t.n < mostI t.k) && !(decide (0 ≤ kidsI t.k) && !decide ((t.l.length : Int) = kidsI t.k)) && decide ((t.l.length : Int) ≤ 4) &&
    ((decide (t.v = 0) && decide (t.c = 0)) || (decide (t.k = 7) && isB t.c t.v))
theorem is_at (c v : Int) (x : Int) (hx : isE c v = x) (w : World) :
    Calls Tryd.prog 56 #[.agg #[.int .i64 v, .int .u8 c]] w fun e w' => e = .returned (.int .i64 x) ∧ Below w.heap.size w w' := by
  rw [← hx]; exact is_any c v w

set_option maxRecDepth 100000 in
set_option maxHeartbeats 4000000 in
theorem isN_any (k n v c : Int) (l : List TyD) (A : Option Addr) (m cp : Nat) (w : World) (hlen : l.length = m) (hm : m ≤ 9223372036854775807) :
    Calls Tryd.prog 44 #[.agg #[.int .u8 k, .int .i64 n, .int .i64 v, .int .u8 c, .slice A m cp]] w fun e w' => e = .returned (.bool (isN ⟨k, n, v, c, l⟩)) ∧ Below w.heap.size w w' := by
  have hmx := @run_max2 Tryd.prog
  have hbx := below_box (w := w) (Obj.cells #[.int .u8 k, .int .i64 n, .int .i64 v, .int .u8 c, .slice A m cp] 27)
  have hz := blk_new w #[.int .u8 k, .int .i64 n, .int .i64 v, .int .u8 c, .slice A m cp] 27
  have hd : isN ⟨k, n, v, c, l⟩ = (decide (1 ≤ k) && decide (k ≤ 8) && decide (0 ≤ n) && decide (n < mostI k) && !(decide (0 ≤ kidsI k) && !decide ((m : Int) = kidsI k)) && decide ((m : Int) ≤ 4) && ((decide (v = 0) && decide (c = 0)) || (decide (k = 7) && isB c v))) := by
    rw [← hlen]; rfl
  have Hd := Lib.hid hd
  have Hbx := Lib.hid hbx
  obtain ⟨W, hW⟩ : ∃ W, w.alloc (Obj.cells #[.int .u8 k, .int .i64 n, .int .i64 v, .int .u8 c, .slice A m cp] 27) = W := ⟨_, rfl⟩
  have z0 : W.cell? ⟨w.heap.size, 0, none⟩ = some (.int .u8 k) := by rw [← hW]; exact hz.cell 0
  have z1 : W.cell? ⟨w.heap.size, 1, none⟩ = some (.int .i64 n) := by rw [← hW]; exact hz.cell 1
  have z2 : W.cell? ⟨w.heap.size, 2, none⟩ = some (.int .i64 v) := by rw [← hW]; exact hz.cell 2
  have z3 : W.cell? ⟨w.heap.size, 3, none⟩ = some (.int .u8 c) := by rw [← hW]; exact hz.cell 3
  have z4 : W.cell? ⟨w.heap.size, 4, none⟩ = some (.slice A m cp) := by rw [← hW]; exact hz.cell 4
  rw [hW] at Hbx
  clear hd hbx hz
  obtain ⟨K, hK⟩ : ∃ K, kidsI k = K := ⟨_, rfl⟩
  have hkc := kids_any k W
  rw [hK] at hkc Hd
  have Hkc := Lib.hid hkc
  have HK := Lib.hid hK
  have HW := Lib.hid hW
  clear hkc hK hW
  go_enter Tryd.func44, Tryd.ntmps44
  by_cases h1 : k < 1
  · have d1 : decide (k < 1) = true := by simpa using h1
    have HR : Hid (false = isN ⟨k, n, v, c, l⟩) := Lib.hid (by rw [Hd.out, decide_eq_false (by omega)]; rfl)
    go_wp2_with fail
    rw [HW.out]
    go_wp2_with fail
    go_ret
    exact ⟨ret_bool HR.out, Hbx.out⟩
  · have d1 : decide (k < 1) = false := by simpa using h1
    by_cases h8 : k > 8
    · have d2 : decide (k > 8) = true := by simpa using h8
      have HR : Hid (false = isN ⟨k, n, v, c, l⟩) := Lib.hid (by rw [Hd.out, decide_eq_false (show ¬ k ≤ 8 by omega), Bool.and_false]; rfl)
      go_wp2_with fail
      rw [HW.out]
      go_wp2_with fail
      go_ret
      exact ⟨ret_bool HR.out, Hbx.out⟩
    · have d2 : decide (k > 8) = false := by simpa using h8
      rw [decide_eq_true (show 1 ≤ k by omega), decide_eq_true (show k ≤ 8 by omega), Bool.true_and, Bool.true_and] at Hd
      go_wp2_with fail
      rw [HW.out]
      refine Hkc.out.mono ?_; rintro e w1 ⟨rfl, rfl⟩
      clear Hkc d1 d2 h1 h8
      have hmm : mostI k = if k = 1 then 1048576 else if k = 8 then 40 else 1 := rfl
      by_cases hk1 : k = 1
      · have c1 : (k == 1) = true := by simp [hk1]
        have c8 : (k == 8) = false := by simp [hk1]
        have hk7 : ¬ k = 7 := by omega
        rw [hmm, if_pos hk1] at Hd
        have hK0 : K = 0 := by rw [← HK.out, hk1]; rfl
        subst hK0
        have d5 : decide ((0 : Int) ≥ 0) = true := by decide
        rw [show decide ((0 : Int) ≤ 0) = true from by decide] at Hd
        clear hmm hk1
        by_cases hn0 : n < 0
        · have d3 : decide (n < 0) = true := by simpa using hn0
          rw [decide_eq_false (show ¬ (0 ≤ n) by omega)] at Hd
          clear hn0
          have HR : Hid (false = isN ⟨k, n, v, c, l⟩) := Lib.hid (by rw [Hd.out]; rfl)
          clear Hd
          go_wp2_with fail
          go_ret
          exact ⟨ret_bool HR.out, Hbx.out⟩
        · have d3 : decide (n < 0) = false := by simpa using hn0
          rw [decide_eq_true (show 0 ≤ n by omega)] at Hd
          clear hn0
          by_cases hn1 : n ≥ 1048576
          · have d4 : decide (n ≥ max 1048576 1) = true := by rw [show max (1048576 : Int) 1 = 1048576 from by decide]; simpa using hn1
            rw [decide_eq_false (show ¬ (n < 1048576) by omega)] at Hd
            clear hn1
            have HR : Hid (false = isN ⟨k, n, v, c, l⟩) := Lib.hid (by rw [Hd.out]; rfl)
            clear Hd
            go_wp2_with fail
            go_ret
            exact ⟨ret_bool HR.out, Hbx.out⟩
          · have d4 : decide (n ≥ max 1048576 1) = false := by rw [show max (1048576 : Int) 1 = 1048576 from by decide]; simpa using hn1
            rw [decide_eq_true (show n < 1048576 by omega)] at Hd
            clear hn1
            by_cases hkm : (m : Int) = 0
            · have d6 : ((m : Int) != 0) = false := by simp [hkm]
              rw [decide_eq_true hkm] at Hd
              have d7 : decide ((m : Int) > 4) = false := decide_eq_false (by omega)
              rw [decide_eq_true (show (m : Int) ≤ 4 by omega)] at Hd
              clear hkm
              by_cases hv : v = 0
              · have e1 : (v == 0) = true := by simp [hv]
                rw [decide_eq_true hv] at Hd
                clear hv
                by_cases hc : c = 0
                · have e2 : (c == 0) = true := by simp [hc]
                  rw [decide_eq_true hc] at Hd
                  clear hc
                  have HR : Hid (true = isN ⟨k, n, v, c, l⟩) := Lib.hid (by rw [Hd.out]; rfl)
                  clear Hd
                  go_wp2_with fail
                  go_ret
                  exact ⟨ret_bool HR.out, Hbx.out⟩
                · have e2 : (c == 0) = false := by simp [hc]
                  rw [decide_eq_false hc] at Hd
                  clear hc
                  have e7 : (k == 7) = false := by simp [hk7]
                  rw [decide_eq_false hk7] at Hd
                  have HR : Hid (false = isN ⟨k, n, v, c, l⟩) := Lib.hid (by rw [Hd.out]; rfl)
                  clear Hd
                  go_wp2_with fail
                  go_ret
                  exact ⟨ret_bool HR.out, Hbx.out⟩
              · have e1 : (v == 0) = false := by simp [hv]
                rw [decide_eq_false hv] at Hd
                clear hv
                have e7 : (k == 7) = false := by simp [hk7]
                rw [decide_eq_false hk7] at Hd
                have HR : Hid (false = isN ⟨k, n, v, c, l⟩) := Lib.hid (by rw [Hd.out]; rfl)
                clear Hd
                go_wp2_with fail
                go_ret
                exact ⟨ret_bool HR.out, Hbx.out⟩
            · have d6 : ((m : Int) != 0) = true := by simp; omega
              rw [decide_eq_false hkm] at Hd
              clear hkm
              have HR : Hid (false = isN ⟨k, n, v, c, l⟩) := Lib.hid (by rw [Hd.out]; rfl)
              clear Hd
              go_wp2_with fail
              go_ret
              exact ⟨ret_bool HR.out, Hbx.out⟩
      · have c1 : (k == 1) = false := by simp [hk1]
        by_cases hk8 : k = 8
        · have c2 : (k == 8) = true := by simp [hk8]
          have hk7 : ¬ k = 7 := by omega
          rw [hmm, if_neg hk1, if_pos hk8] at Hd
          have hK0 : K = -1 := by rw [← HK.out, hk8]; rfl
          subst hK0
          have d5 : decide ((-1 : Int) ≥ 0) = false := by decide
          rw [show decide ((0 : Int) ≤ -1) = false from by decide] at Hd
          clear hmm hk1 hk8
          by_cases hn0 : n < 0
          · have d3 : decide (n < 0) = true := by simpa using hn0
            rw [decide_eq_false (show ¬ (0 ≤ n) by omega)] at Hd
            clear hn0
            have HR : Hid (false = isN ⟨k, n, v, c, l⟩) := Lib.hid (by rw [Hd.out]; rfl)
            clear Hd
            go_wp2_with fail
            go_ret
            exact ⟨ret_bool HR.out, Hbx.out⟩
          · have d3 : decide (n < 0) = false := by simpa using hn0
            rw [decide_eq_true (show 0 ≤ n by omega)] at Hd
            clear hn0
            by_cases hn1 : n ≥ 40
            · have d4 : decide (n ≥ max 40 1) = true := by rw [show max (40 : Int) 1 = 40 from by decide]; simpa using hn1
              rw [decide_eq_false (show ¬ (n < 40) by omega)] at Hd
              clear hn1
              have HR : Hid (false = isN ⟨k, n, v, c, l⟩) := Lib.hid (by rw [Hd.out]; rfl)
              clear Hd
              go_wp2_with fail
              go_ret
              exact ⟨ret_bool HR.out, Hbx.out⟩
            · have d4 : decide (n ≥ max 40 1) = false := by rw [show max (40 : Int) 1 = 40 from by decide]; simpa using hn1
              rw [decide_eq_true (show n < 40 by omega)] at Hd
              clear hn1
              by_cases hm4 : (m : Int) > 4
              · have d7 : decide ((m : Int) > 4) = true := by simpa using hm4
                rw [decide_eq_false (show ¬ ((m : Int) ≤ 4) by omega)] at Hd
                clear hm4
                have HR : Hid (false = isN ⟨k, n, v, c, l⟩) := Lib.hid (by rw [Hd.out]; rfl)
                clear Hd
                go_wp2_with fail
                go_ret
                exact ⟨ret_bool HR.out, Hbx.out⟩
              · have d7 : decide ((m : Int) > 4) = false := by simpa using hm4
                rw [decide_eq_true (show (m : Int) ≤ 4 by omega)] at Hd
                clear hm4
                by_cases hv : v = 0
                · have e1 : (v == 0) = true := by simp [hv]
                  rw [decide_eq_true hv] at Hd
                  clear hv
                  by_cases hc : c = 0
                  · have e2 : (c == 0) = true := by simp [hc]
                    rw [decide_eq_true hc] at Hd
                    clear hc
                    have HR : Hid (true = isN ⟨k, n, v, c, l⟩) := Lib.hid (by rw [Hd.out]; rfl)
                    clear Hd
                    go_wp2_with fail
                    go_ret
                    exact ⟨ret_bool HR.out, Hbx.out⟩
                  · have e2 : (c == 0) = false := by simp [hc]
                    rw [decide_eq_false hc] at Hd
                    clear hc
                    have e7 : (k == 7) = false := by simp [hk7]
                    rw [decide_eq_false hk7] at Hd
                    have HR : Hid (false = isN ⟨k, n, v, c, l⟩) := Lib.hid (by rw [Hd.out]; rfl)
                    clear Hd
                    go_wp2_with fail
                    go_ret
                    exact ⟨ret_bool HR.out, Hbx.out⟩
                · have e1 : (v == 0) = false := by simp [hv]
                  rw [decide_eq_false hv] at Hd
                  clear hv
                  have e7 : (k == 7) = false := by simp [hk7]
                  rw [decide_eq_false hk7] at Hd
                  have HR : Hid (false = isN ⟨k, n, v, c, l⟩) := Lib.hid (by rw [Hd.out]; rfl)
                  clear Hd
                  go_wp2_with fail
                  go_ret
                  exact ⟨ret_bool HR.out, Hbx.out⟩
        · have c2 : (k == 8) = false := by simp [hk8]
          rw [hmm, if_neg hk1, if_neg hk8] at Hd
          have hK0 : 0 ≤ K := by rw [← HK.out]; unfold kidsI; split <;> (try split) <;> (try split) <;> omega
          have d5 : decide (K ≥ 0) = true := by simpa using hK0
          rw [decide_eq_true hK0] at Hd
          clear hmm hK0 hk1 hk8
          by_cases hk7 : k = 7
          · have e7 : (k == 7) = true := by simp [hk7]
            rw [decide_eq_true hk7] at Hd
            clear hk7
            by_cases hn0 : n < 0
            · have d3 : decide (n < 0) = true := by simpa using hn0
              rw [decide_eq_false (show ¬ (0 ≤ n) by omega)] at Hd
              clear hn0
              have HR : Hid (false = isN ⟨k, n, v, c, l⟩) := Lib.hid (by rw [Hd.out]; rfl)
              clear Hd
              go_wp2_with fail
              go_ret
              exact ⟨ret_bool HR.out, Hbx.out⟩
            · have d3 : decide (n < 0) = false := by simpa using hn0
              rw [decide_eq_true (show 0 ≤ n by omega)] at Hd
              clear hn0
              by_cases hn1 : n ≥ 1
              · have d4 : decide (n ≥ max 0 1) = true := by rw [show max (0 : Int) 1 = 1 from by decide]; simpa using hn1
                rw [decide_eq_false (show ¬ (n < 1) by omega)] at Hd
                clear hn1
                have HR : Hid (false = isN ⟨k, n, v, c, l⟩) := Lib.hid (by rw [Hd.out]; rfl)
                clear Hd
                go_wp2_with fail
                go_ret
                exact ⟨ret_bool HR.out, Hbx.out⟩
              · have d4 : decide (n ≥ max 0 1) = false := by rw [show max (0 : Int) 1 = 1 from by decide]; simpa using hn1
                rw [decide_eq_true (show n < 1 by omega)] at Hd
                clear hn1
                by_cases hkm : (m : Int) = K
                · have d6 : ((m : Int) != K) = false := by simp [hkm]
                  rw [decide_eq_true hkm] at Hd
                  clear hkm
                  by_cases hm4 : (m : Int) > 4
                  · have d7 : decide ((m : Int) > 4) = true := by simpa using hm4
                    rw [decide_eq_false (show ¬ ((m : Int) ≤ 4) by omega)] at Hd
                    clear hm4
                    have HR : Hid (false = isN ⟨k, n, v, c, l⟩) := Lib.hid (by rw [Hd.out]; rfl)
                    clear Hd
                    go_wp2_with fail
                    go_ret
                    exact ⟨ret_bool HR.out, Hbx.out⟩
                  · have d7 : decide ((m : Int) > 4) = false := by simpa using hm4
                    rw [decide_eq_true (show (m : Int) ≤ 4 by omega)] at Hd
                    clear hm4
                    by_cases hv : v = 0
                    · have e1 : (v == 0) = true := by simp [hv]
                      rw [decide_eq_true hv] at Hd
                      clear hv
                      by_cases hc : c = 0
                      · have e2 : (c == 0) = true := by simp [hc]
                        rw [decide_eq_true hc] at Hd
                        clear hc
                        have HR : Hid (true = isN ⟨k, n, v, c, l⟩) := Lib.hid (by rw [Hd.out]; rfl)
                        clear Hd
                        go_wp2_with fail
                        go_ret
                        exact ⟨ret_bool HR.out, Hbx.out⟩
                      · have e2 : (c == 0) = false := by simp [hc]
                        rw [decide_eq_false hc] at Hd
                        clear hc
                        obtain ⟨I, hI⟩ : ∃ I, isB c v = I := ⟨_, rfl⟩
                        rw [hI] at Hd
                        cases I with
                        | true =>
                          have HR : Hid (true = isN ⟨k, n, v, c, l⟩) := Lib.hid (by rw [Hd.out]; rfl)
                          have Hq := Lib.hid (is_at c v 0 (isE_yes hI) W)
                          clear hI Hd
                          go_wp2_with fail
                          refine Hq.out.mono ?_; rintro e w1 ⟨rfl, hb1⟩
                          go_wp2_with fail
                          go_ret
                          exact ⟨ret_bool HR.out, Hbx.out.trans (hb1.mono Hbx.out.size)⟩
                        | false =>
                          have HR : Hid (false = isN ⟨k, n, v, c, l⟩) := Lib.hid (by rw [Hd.out]; rfl)
                          have Hq := Lib.hid (is_at c v 2 (isE_no hI) W)
                          clear hI Hd
                          go_wp2_with fail
                          refine Hq.out.mono ?_; rintro e w1 ⟨rfl, hb1⟩
                          go_wp2_with fail
                          go_ret
                          exact ⟨ret_bool HR.out, Hbx.out.trans (hb1.mono Hbx.out.size)⟩
                    · have e1 : (v == 0) = false := by simp [hv]
                      rw [decide_eq_false hv] at Hd
                      clear hv
                      obtain ⟨I, hI⟩ : ∃ I, isB c v = I := ⟨_, rfl⟩
                      rw [hI] at Hd
                      cases I with
                      | true =>
                        have HR : Hid (true = isN ⟨k, n, v, c, l⟩) := Lib.hid (by rw [Hd.out]; rfl)
                        have Hq := Lib.hid (is_at c v 0 (isE_yes hI) W)
                        clear hI Hd
                        go_wp2_with fail
                        refine Hq.out.mono ?_; rintro e w1 ⟨rfl, hb1⟩
                        go_wp2_with fail
                        go_ret
                        exact ⟨ret_bool HR.out, Hbx.out.trans (hb1.mono Hbx.out.size)⟩
                      | false =>
                        have HR : Hid (false = isN ⟨k, n, v, c, l⟩) := Lib.hid (by rw [Hd.out]; rfl)
                        have Hq := Lib.hid (is_at c v 2 (isE_no hI) W)
                        clear hI Hd
                        go_wp2_with fail
                        refine Hq.out.mono ?_; rintro e w1 ⟨rfl, hb1⟩
                        go_wp2_with fail
                        go_ret
                        exact ⟨ret_bool HR.out, Hbx.out.trans (hb1.mono Hbx.out.size)⟩
                · have d6 : ((m : Int) != K) = true := by simp [hkm]
                  rw [decide_eq_false hkm] at Hd
                  clear hkm
                  have HR : Hid (false = isN ⟨k, n, v, c, l⟩) := Lib.hid (by rw [Hd.out]; rfl)
                  clear Hd
                  go_wp2_with fail
                  go_ret
                  exact ⟨ret_bool HR.out, Hbx.out⟩
          · have e70 := trivial
            clear e70
            by_cases hn0 : n < 0
            · have d3 : decide (n < 0) = true := by simpa using hn0
              rw [decide_eq_false (show ¬ (0 ≤ n) by omega)] at Hd
              clear hn0
              have HR : Hid (false = isN ⟨k, n, v, c, l⟩) := Lib.hid (by rw [Hd.out]; rfl)
              clear Hd
              go_wp2_with fail
              go_ret
              exact ⟨ret_bool HR.out, Hbx.out⟩
            · have d3 : decide (n < 0) = false := by simpa using hn0
              rw [decide_eq_true (show 0 ≤ n by omega)] at Hd
              clear hn0
              by_cases hn1 : n ≥ 1
              · have d4 : decide (n ≥ max 0 1) = true := by rw [show max (0 : Int) 1 = 1 from by decide]; simpa using hn1
                rw [decide_eq_false (show ¬ (n < 1) by omega)] at Hd
                clear hn1
                have HR : Hid (false = isN ⟨k, n, v, c, l⟩) := Lib.hid (by rw [Hd.out]; rfl)
                clear Hd
                go_wp2_with fail
                go_ret
                exact ⟨ret_bool HR.out, Hbx.out⟩
              · have d4 : decide (n ≥ max 0 1) = false := by rw [show max (0 : Int) 1 = 1 from by decide]; simpa using hn1
                rw [decide_eq_true (show n < 1 by omega)] at Hd
                clear hn1
                by_cases hkm : (m : Int) = K
                · have d6 : ((m : Int) != K) = false := by simp [hkm]
                  rw [decide_eq_true hkm] at Hd
                  clear hkm
                  by_cases hm4 : (m : Int) > 4
                  · have d7 : decide ((m : Int) > 4) = true := by simpa using hm4
                    rw [decide_eq_false (show ¬ ((m : Int) ≤ 4) by omega)] at Hd
                    clear hm4
                    have HR : Hid (false = isN ⟨k, n, v, c, l⟩) := Lib.hid (by rw [Hd.out]; rfl)
                    clear Hd
                    go_wp2_with fail
                    go_ret
                    exact ⟨ret_bool HR.out, Hbx.out⟩
                  · have d7 : decide ((m : Int) > 4) = false := by simpa using hm4
                    rw [decide_eq_true (show (m : Int) ≤ 4 by omega)] at Hd
                    clear hm4
                    by_cases hv : v = 0
                    · have e1 : (v == 0) = true := by simp [hv]
                      rw [decide_eq_true hv] at Hd
                      clear hv
                      by_cases hc : c = 0
                      · have e2 : (c == 0) = true := by simp [hc]
                        rw [decide_eq_true hc] at Hd
                        clear hc
                        have HR : Hid (true = isN ⟨k, n, v, c, l⟩) := Lib.hid (by rw [Hd.out]; rfl)
                        clear Hd
                        go_wp2_with fail
                        go_ret
                        exact ⟨ret_bool HR.out, Hbx.out⟩
                      · have e2 : (c == 0) = false := by simp [hc]
                        rw [decide_eq_false hc] at Hd
                        clear hc
                        have e7 : (k == 7) = false := by simp [hk7]
                        rw [decide_eq_false hk7] at Hd
                        have HR : Hid (false = isN ⟨k, n, v, c, l⟩) := Lib.hid (by rw [Hd.out]; rfl)
                        clear Hd
                        go_wp2_with fail
                        go_ret
                        exact ⟨ret_bool HR.out, Hbx.out⟩
                    · have e1 : (v == 0) = false := by simp [hv]
                      rw [decide_eq_false hv] at Hd
                      clear hv
                      have e7 : (k == 7) = false := by simp [hk7]
                      rw [decide_eq_false hk7] at Hd
                      have HR : Hid (false = isN ⟨k, n, v, c, l⟩) := Lib.hid (by rw [Hd.out]; rfl)
                      clear Hd
                      go_wp2_with fail
                      go_ret
                      exact ⟨ret_bool HR.out, Hbx.out⟩
                · have d6 : ((m : Int) != K) = true := by simp [hkm]
                  rw [decide_eq_false hkm] at Hd
                  clear hkm
                  have HR : Hid (false = isN ⟨k, n, v, c, l⟩) := Lib.hid (by rw [Hd.out]; rfl)
                  clear Hd
                  go_wp2_with fail
                  go_ret
                  exact ⟨ret_bool HR.out, Hbx.out⟩

end Go.Proofs.YtidamlkekgnhgaaDoor
