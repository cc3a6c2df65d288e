/- MultCounts holds for every input: whatever numbers of times two uses let be, their sum lets be the sum, their join each one, and the scale what is done again and again. No conditions. -/
import Derived.Test.YtmpodijbgkcdhaaLawA
import Derived.Test.YtmpodijbgkcdhaaMultQ
import Derived.Test.YtmpodijbgkcdhaaRow
namespace Go.Proofs.Ytmpodijbgkcdhaa
set_option linter.unusedVariables false
set_option linter.unusedSimpArgs false
open Go.ChangeShapes Go.WideShapes Go.ChangeAt Go.RowKit

theorem lawLets_any (u n : Int) (hu : 0 ≤ u) (w : World) :
    Calls Try.prog 15 #[.int .u8 u, .int .i64 n] w fun e w' => e = .returned (.bool (letsI u n)) ∧ w = w' := by
  by_cases h3 : 3 ≤ u
  · have H : Hid (true = letsI u n) := by
      show _ = _
      unfold letsI
      rw [if_neg (by omega), if_neg (by omega), if_neg (by omega)]
    have hb : decide (3 ≤ u) = true := by simpa using h3
    go_enter Try.func15, Try.ntmps15
    go_wp2_with fail
    go_ret
    exact ⟨ret_bool H.out, rfl⟩
  · have hb : decide (3 ≤ u) = false := by simpa using h3
    have hc : u = 0 ∨ u = 1 ∨ u = 2 := by omega
    clear hu h3
    rcases hc with rfl | rfl | rfl
    · by_cases h : n = 0
      · have h1 : (n == 0) = true := by simp [h]
        have H : Hid (true = letsI 0 n) := by show _ = _; simp [letsI, h]
        clear h
        go_enter Try.func15, Try.ntmps15
        go_wp2_with fail
        go_ret
        exact ⟨ret_bool H.out, rfl⟩
      · have h1 : (n == 0) = false := by simp [h]
        have H : Hid (false = letsI 0 n) := by show _ = _; simp [letsI, h]
        clear h
        go_enter Try.func15, Try.ntmps15
        go_wp2_with fail
        go_ret
        exact ⟨ret_bool H.out, rfl⟩
    · by_cases h : n = 1
      · have h1 : (n == 1) = true := by simp [h]
        have H : Hid (true = letsI 1 n) := by show _ = _; simp [letsI, h]
        clear h
        go_enter Try.func15, Try.ntmps15
        go_wp2_with fail
        go_ret
        exact ⟨ret_bool H.out, rfl⟩
      · have h1 : (n == 1) = false := by simp [h]
        have H : Hid (false = letsI 1 n) := by show _ = _; simp [letsI, h]
        clear h
        go_enter Try.func15, Try.ntmps15
        go_wp2_with fail
        go_ret
        exact ⟨ret_bool H.out, rfl⟩
    · by_cases h : n ≤ 1
      · have h1 : decide (n ≤ 1) = true := by simpa using h
        have H : Hid (true = letsI 2 n) := by show _ = _; simp [letsI, h]
        go_enter Try.func15, Try.ntmps15
        go_wp2_with fail
        go_ret
        exact ⟨ret_bool H.out, rfl⟩
      · have h1 : decide (n ≤ 1) = false := by simpa using h
        have H : Hid (false = letsI 2 n) := by show _ = _; simp [letsI]; omega
        go_enter Try.func15, Try.ntmps15
        go_wp2_with fail
        go_ret
        exact ⟨ret_bool H.out, rfl⟩
theorem lawLets_at (u n : Int) (v : Bool) (h : letsI u n = v) (hu : 0 ≤ u) (w : World) :
    Calls Try.prog 15 #[.int .u8 u, .int .i64 n] w fun e w' => e = .returned (.bool v) ∧ w = w' :=
  (lawLets_any u n hu w).mono fun _ _ ⟨he, hw⟩ => ⟨by rw [he, h], hw⟩

/-! ### the plain law -/
theorem cl_case (u : Int) : cl u = 0 ∨ cl u = 1 ∨ cl u = 2 ∨ cl u = 3 := by simpa using cl_mem u
theorem letsP (x n : Int) : letsI x n = true ↔ (x = 0 ∧ n = 0) ∨ (x = 1 ∧ n = 1) ∨ (x = 2 ∧ n ≤ 1) ∨ (x ≠ 0 ∧ x ≠ 1 ∧ x ≠ 2) := by
  unfold letsI
  by_cases h0 : x = 0
  · subst h0; simp
  · by_cases h1 : x = 1
    · subst h1; simp
    · by_cases h2 : x = 2
      · subst h2; simp
      · simp [h0, h1, h2]
theorem lets_sum {a b n k : Int} (ha : 0 ≤ a) (hb : 0 ≤ b) (hn : 0 ≤ n) (hk : 0 ≤ k) (h1 : letsI a n = true) (h2 : letsI b k = true) : letsI (sumI [a, b]) (n + k) = true := by
  rw [sum2_eq ha hb]
  rw [lets_cl, letsP] at h1 h2
  rw [letsP]
  have e := cl_case a
  have f := cl_case b
  unfold sumC
  split <;> (try split) <;> omega
theorem joinC_cases {x y : Int} (e : x = 0 ∨ x = 1 ∨ x = 2 ∨ x = 3) (f : y = 0 ∨ y = 1 ∨ y = 2 ∨ y = 3) : (x = y ∧ joinC x y = x) ∨ (x ≠ y ∧ (x = 3 ∨ y = 3) ∧ joinC x y = 3) ∨ (x ≠ y ∧ x ≠ 3 ∧ y ≠ 3 ∧ joinC x y = 2) := by
  rcases e with rfl | rfl | rfl | rfl <;> rcases f with rfl | rfl | rfl | rfl <;> decide
theorem lets_join1 {a b n : Int} (ha : 0 ≤ a) (hb : 0 ≤ b) (hn : 0 ≤ n) (h1 : letsI a n = true) : letsI (joinI [a, b]) n = true := by
  rw [join2_eq ha hb]
  rw [lets_cl, letsP] at h1
  rw [letsP]
  have e := cl_case a
  have f := cl_case b
  have g := joinC_cases e f
  omega
theorem lets_join2 {a b n : Int} (ha : 0 ≤ a) (hb : 0 ≤ b) (hn : 0 ≤ n) (h1 : letsI b n = true) : letsI (joinI [a, b]) n = true := by
  rw [join2_eq ha hb]
  rw [lets_cl, letsP] at h1
  rw [letsP]
  have e := cl_case a
  have f := cl_case b
  have g := joinC_cases e f
  omega
theorem lets_scale {a n : Int} (ha : 0 ≤ a) (hn : 0 ≤ n) (h1 : letsI a n = true) :
    letsI (scaleI 1 a) n = true ∧ letsI (scaleI 2 a) n = true ∧ letsI (scaleI 2 a) 0 = true ∧ letsI (scaleI 3 a) (2 * n) = true ∧ letsI (scaleI 3 a) 0 = true := by
  rw [scale_eq (m := 1) ha, scale_eq (m := 2) ha, scale_eq (m := 3) ha, show nearI 1 = 1 from by decide, show nearI 2 = 2 from by decide, show nearI 3 = 3 from by decide]
  rw [lets_cl, letsP] at h1
  simp only [letsP]
  rcases cl_case a with e | e | e | e <;> rw [e] at h1 ⊢
  · rw [show scaleI 1 0 = 0 from by decide, show scaleI 2 0 = 0 from by decide, show scaleI 3 0 = 0 from by decide]
    obtain rfl : n = 0 := by simpa using h1
    decide
  · rw [show scaleI 1 1 = 1 from by decide, show scaleI 2 1 = 2 from by decide, show scaleI 3 1 = 3 from by decide]; omega
  · rw [show scaleI 1 2 = 2 from by decide, show scaleI 2 2 = 2 from by decide, show scaleI 3 2 = 3 from by decide]; omega
  · rw [show scaleI 1 3 = 3 from by decide, show scaleI 2 3 = 3 from by decide, show scaleI 3 3 = 3 from by decide]; omega
theorem scale_lo (m a : Int) (ha : 0 ≤ a) : 0 ≤ scaleI m a := by
  have := nearI_lo m
  unfold scaleI
  split <;> omega

set_option maxHeartbeats 2000000 in
theorem walk_multCounts (a : Int) (ha : 0 ≤ a ∧ a ≤ 255) (b : Int) (hb : 0 ≤ b ∧ b ≤ 255) (n : Int) (hn : -9223372036854775808 ≤ n ∧ n ≤ 9223372036854775807) (k : Int) (hk : -9223372036854775808 ≤ k ∧ k ≤ 9223372036854775807) (w : World) :
    Calls Try.prog 4 #[.int .u8 a, .int .u8 b, .int .i64 n, .int .i64 k] w fun e w' => e = .returned (.bool true) ∧ Below w.heap.size w w' := by
  obtain ⟨ha0, _⟩ := ha
  obtain ⟨hb0, _⟩ := hb
  clear hn hk
  by_cases c : (n < 0 ∨ k < 0 ∨ 1099511627776 < n ∨ 1099511627776 < k) ∨ letsI a n = false ∨ letsI b k = false
  · have cs : n < 0 ∨ (0 ≤ n ∧ k < 0) ∨ (0 ≤ n ∧ 0 ≤ k ∧ 1099511627776 < n) ∨ (0 ≤ n ∧ 0 ≤ k ∧ n ≤ 1099511627776 ∧ 1099511627776 < k) ∨
        (0 ≤ n ∧ 0 ≤ k ∧ n ≤ 1099511627776 ∧ k ≤ 1099511627776 ∧ letsI a n = false) ∨ (0 ≤ n ∧ 0 ≤ k ∧ n ≤ 1099511627776 ∧ k ≤ 1099511627776 ∧ letsI a n = true ∧ letsI b k = false) := by
      cases h1 : letsI a n <;> cases h2 : letsI b k <;> simp [h1, h2] at c ⊢ <;> omega
    clear c
    rcases cs with h1 | ⟨h1, h2⟩ | ⟨h1, h2, h3⟩ | ⟨h1, h2, h3, h4⟩ | ⟨h1, h2, h3, h4, h5⟩ | ⟨h1, h2, h3, h4, h5, h6⟩
    all_goals
      go_enter Try.func4, Try.ntmps4
      go_wp2_with (first
        | (go_at_call 15; refine (lawLets_at _ _ true ?_ (by omega) _).mono ?_; assumption; rintro e w1 ⟨rfl, rfl⟩)
        | (go_at_call 15; refine (lawLets_at _ _ false ?_ (by omega) _).mono ?_; assumption; rintro e w1 ⟨rfl, rfl⟩)
        | (go_at_call 10; refine (works_any _).mono ?_; rintro e w2 ⟨rfl, hb2⟩))
      all_goals
        go_ret
        exact ⟨rfl, by assumption⟩
  · obtain ⟨c1, c2⟩ := not_or.1 c
    have hn0 : 0 ≤ n := by omega
    have hk0 : 0 ≤ k := by omega
    have hn1 : n ≤ 1099511627776 := by omega
    have hk1 : k ≤ 1099511627776 := by omega
    have l1 : letsI a n = true := by cases h : letsI a n <;> simp_all
    have l2 : letsI b k = true := by cases h : letsI b k <;> simp_all
    clear c c1 c2
    have l3 := lets_sum ha0 hb0 hn0 hk0 l1 l2
    have l4 := lets_join1 ha0 hb0 hn0 l1
    have l5 := lets_join2 ha0 hb0 hk0 l2
    obtain ⟨l6, l7, l8, l9, l10⟩ := lets_scale ha0 hn0 l1
    have s1 := scale_lo 1 a ha0
    have s2 := scale_lo 2 a ha0
    have s3 := scale_lo 3 a ha0
    have s4 : 0 ≤ sumI [a, b] := by rw [sum2_eq ha0 hb0]; exact mem_nonneg (sumC_mem _ (cl_mem a) _ (cl_mem b))
    have s5 : 0 ≤ joinI [a, b] := by rw [join2_eq ha0 hb0]; exact mem_nonneg (joinC_mem _ (cl_mem a) _ (cl_mem b))
    go_enter Try.func4, Try.ntmps4
    go_wp2_with (first
      | (go_at_call 15; refine (lawLets_at _ _ true ?_ (by assumption) _).mono ?_; assumption; rintro e w1 ⟨rfl, rfl⟩)
      | (go_at_call 11; refine (join2_any _ _ _ _ (by simp)).mono ?_; rintro e w1 ⟨rfl, rfl⟩)
      | (go_at_call 12; refine (sum2_any _ _ _ _ (by simp)).mono ?_; rintro e w1 ⟨rfl, rfl⟩)
      | (go_at_call 16; refine (scale_any _ _ _).mono ?_; rintro e w1 ⟨rfl, rfl⟩)
      | (go_at_call 10; refine (works_any _).mono ?_; rintro e w2 ⟨rfl, hb2⟩))
    go_ret
    exact ⟨rfl, (((Below.refl _ _).alloc (Nat.le_refl _) _).alloc (by simp) _).trans (hb2.mono (by simp; omega))⟩

/-! ### the row's step -/
namespace multCounts
set_option maxRecDepth 100000 in
theorem lifted (os : Os) (started : os.Started) (H : Type) (enc : TypeId × Value → H) :
    ReturnsInHanded {} Try.checked os 4 .any (Rows.multCountsSpec.pre6 enc Try.prog Try.f4 Rows.multCountsRow.domain false) (Rows.multCountsSpec.post enc Try.prog Try.f4 false true false false) := by
  refine returnsInHanded_of_change (C := Try.checked) own started (by kernel_rfl) Try.func4
    (ChangeSpec.witness6 (enc := enc) (C := Try.checked) false ⟨#[], #[.int .u8 0, .int .u8 0, .int .i64 0, .int .i64 0], []⟩ 8 (by kernel_rfl) (by kernel_rfl) (by kernel_rfl) (by kernel_rfl)) ?_
  intro W base args ds gs before hval0 hW hcnd _
  have hval : ∀ (j : Nat) t v, Try.f4.params[j]? = some t → args[j]? = some v → Value.okWide Try.prog W .any base t v := hval0
  have hW' := hW
  obtain ⟨p, q, hA0, hV, rfl, hfz, hnd⟩ := hW
  have hA : DataW.TrodAll enc Try.prog W 0 (fun _ => true) true Try.f4.params.toList args.toList ds p := hA0
  rw [Try.params4] at hA hval
  obtain ⟨v0, vs0, d0, ds0, p0, q0, hargs, rfl, rfl, h0, r_0⟩ := trodAll_cons hA
  obtain ⟨v1, vs1, d1, ds1, p1, q1, rfl, rfl, rfl, h1, r_1⟩ := trodAll_cons r_0
  obtain ⟨v2, vs2, d2, ds2, p2, q2, rfl, rfl, rfl, h2, r_2⟩ := trodAll_cons r_1
  obtain ⟨v3, vs3, d3, ds3, p3, q3, rfl, rfl, rfl, h3, r_3⟩ := trodAll_cons r_2
  obtain ⟨rfl, rfl, rfl⟩ := trodAll_nil r_3
  obtain rfl : args = #[v0, v1, v2, v3] := by cases args; simp_all
  obtain ⟨rfl, rfl⟩ := trodVars_none hV
  obtain ⟨a0, rfl, _, _, w0⟩ := open_int Try.underlying24 (hval 0 24 v0 rfl rfl) h0
  have b0 := bounds_u8 w0
  obtain ⟨a1, rfl, _, _, w1⟩ := open_int Try.underlying24 (hval 1 24 v1 rfl rfl) h1
  have b1 := bounds_u8 w1
  obtain ⟨a2, rfl, _, _, w2⟩ := open_int Try.underlying3 (hval 2 3 v2 rfl rfl) h2
  have b2 := bounds_i64 w2
  obtain ⟨a3, rfl, _, _, w3⟩ := open_int Try.underlying3 (hval 3 3 v3 rfl rfl) h3
  have b3 := bounds_i64 w3
  refine (walk_multCounts a0 b0 a1 b1 a2 b2 a3 b3 W).mono fun e W' ⟨he, bel⟩ => ?_
  subst he
  exact ⟨_, rfl, law_post laidOut (by kernel_rfl) rfl rfl Try.underlying4 hW' rfl rfl rfl bel⟩
theorem over : Rows.multCountsRow.holds Try.pinned (OpenSpec.ofChange Rows.multCountsSpec) :=
  OpenClaim.holds_of_wide 4 Try.f4 rfl rfl rfl rfl rfl rfl rfl ⟨rfl, rfl, rfl, rfl, rfl⟩ rfl rfl rfl rfl rfl (by kernel_rfl) Try.func4 (by kernel_rfl)
    (of_decide_eq_true (by kernel_rfl)) (by unfold Func.isWrapper; first | (rw [if_pos (by decide +kernel)]; kernel_rfl) | (rw [if_neg (by decide +kernel)]; exact ⟨rfl, rfl⟩))
    (fun os started H enc _ => lifted os started H enc)
/-- the statement -/
theorem proved : Rows.MultCountsSaid := over
#print axioms proved
end multCounts
end Go.Proofs.Ytmpodijbgkcdhaa
