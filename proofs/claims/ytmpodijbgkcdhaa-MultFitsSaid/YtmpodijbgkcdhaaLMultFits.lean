/- MultFits holds for every input: what is joined fits just if each one does, what fits fits all that is greater, and Least is the least. No conditions. -/
import Derived.Test.YtmpodijbgkcdhaaLawA
import Derived.Test.YtmpodijbgkcdhaaMultQ
import Derived.Test.YtmpodijbgkcdhaaRow
namespace Go.Proofs.Ytmpodijbgkcdhaa
set_option linter.unusedVariables false
set_option linter.unusedSimpArgs false
open Go.ChangeShapes Go.WideShapes Go.ChangeAt Go.RowKit

/-! ### the plain law -/
theorem fits_join {a b m : Int} (ha : 0 ≤ a) (hb : 0 ≤ b) : fitsI (joinI [a, b]) m = (fitsI a m && fitsI b m) := by
  have hj := joinC_mem _ (cl_mem a) _ (cl_mem b)
  rw [join2_eq ha hb, fits_eq (mem_nonneg hj), fits_eq ha, fits_eq hb, cl_of_mem hj]
  have h := cl_mem a
  have k := cl_mem b
  have l := near_mem m
  generalize cl a = x at h ⊢
  generalize cl b = y at k ⊢
  generalize nearI m = z at l ⊢
  revert x y z
  decide +kernel
theorem fits_max {a m n : Int} (h : fitsI a m = true) : fitsI a (max m n) = true := by
  unfold fitsI nearI at *
  simp only [decide_eq_true_eq] at *
  split at h <;> split <;> (try split) <;> (try split at h) <;> omega
theorem fits_least (a : Int) : fitsI a (leastI a) = true := by
  have h1 := leastI_lo a
  have h2 := leastI_hi a
  unfold fitsI nearI
  simp only [decide_eq_true_eq]
  split <;> (try split) <;> omega
theorem fits_less {a : Int} (h : ¬ leastI a = 1) : fitsI a (leastI a - 1) = false := by
  have h1 := leastI_lo a
  have h2 := leastI_hi a
  unfold fitsI nearI
  simp only [decide_eq_false_iff_not]
  split <;> (try split) <;> omega

/-! ### the walk -/
set_option maxHeartbeats 1000000 in
theorem walk_multFits (a : Int) (ha : 0 ≤ a ∧ a ≤ 255) (b : Int) (hb : 0 ≤ b ∧ b ≤ 255) (m : Int) (hm : 0 ≤ m ∧ m ≤ 255) (n : Int) (hn : 0 ≤ n ∧ n ≤ 255) (w : World) :
    Calls Try.prog 6 #[.int .u8 a, .int .u8 b, .int .u8 m, .int .u8 n] w fun e w' => e = .returned (.bool true) ∧ Below w.heap.size w w' := by
  have hmx := @run_max2 Try.prog
  have hj := fits_join (m := m) ha.1 hb.1
  have hl := fits_least a
  have l1 := leastI_lo a
  have l2 := leastI_hi a
  have hm1 : fitsI a m = false ∨ fitsI a m = true ∧ fitsI a (max m n) = true := by
    cases h : fitsI a m
    · exact .inl rfl
    · exact .inr ⟨rfl, fits_max h⟩
  have hls : (leastI a == 1) = true ∨ (leastI a == 1) = false ∧ fitsI a (leastI a - 1) = false := by
    by_cases h : leastI a = 1
    · exact .inl (by simpa using h)
    · exact .inr ⟨by simpa using h, fits_less h⟩
  have Hls := Lib.hid hls; clear hls
  rcases hm1 with h1 | ⟨h1, h3⟩
  all_goals
    cases h2 : fitsI b m
    all_goals
      rw [h1, h2] at hj
      simp only [Bool.false_and, Bool.true_and] at hj
      rcases Hls.out with h4 | ⟨h4, h5⟩
      all_goals
        go_enter Try.func6, Try.ntmps6
        go_wp2_with (first
          | (go_at_call 11; refine (join2_any _ _ _ _ (by simp)).mono ?_; rintro e w1 ⟨rfl, rfl⟩)
          | (go_at_call 17; refine (fits_at _ _ true ?_ _).mono ?_; assumption; rintro e w1 ⟨rfl, rfl⟩)
          | (go_at_call 17; refine (fits_at _ _ false ?_ _).mono ?_; assumption; rintro e w1 ⟨rfl, rfl⟩)
          | (go_at_call 18; refine (least_any _ _).mono ?_; rintro e w1 ⟨rfl, rfl⟩)
          | (go_at_call 10; refine (works_any _).mono ?_; rintro e w2 ⟨rfl, hb2⟩))
        go_ret
        exact ⟨rfl, ((Below.refl _ _).alloc (Nat.le_refl _) _).trans (hb2.mono (by simp))⟩

/-! ### the row's step -/
namespace multFits
set_option maxRecDepth 100000 in
theorem lifted (os : Os) (started : os.Started) (H : Type) (enc : TypeId × Value → H) :
    ReturnsInHanded {} Try.checked os 6 .any (Rows.multFitsSpec.pre6 enc Try.prog Try.f6 Rows.multFitsRow.domain false) (Rows.multFitsSpec.post enc Try.prog Try.f6 false true false false) := by
  refine returnsInHanded_of_change (C := Try.checked) own started (by kernel_rfl) Try.func6
    (ChangeSpec.witness6 (enc := enc) (C := Try.checked) false ⟨#[], #[.int .u8 0, .int .u8 0, .int .u8 0, .int .u8 0], []⟩ 8 (by kernel_rfl) (by kernel_rfl) (by kernel_rfl) (by kernel_rfl)) ?_
  intro W base args ds gs before hval0 hW hcnd _
  have hval : ∀ (j : Nat) t v, Try.f6.params[j]? = some t → args[j]? = some v → Value.okWide Try.prog W .any base t v := hval0
  have hW' := hW
  obtain ⟨p, q, hA0, hV, rfl, hfz, hnd⟩ := hW
  have hA : DataW.TrodAll enc Try.prog W 0 (fun _ => true) true Try.f6.params.toList args.toList ds p := hA0
  rw [Try.params6] at hA hval
  obtain ⟨v0, vs0, d0, ds0, p0, q0, hargs, rfl, rfl, h0, r_0⟩ := trodAll_cons hA
  obtain ⟨v1, vs1, d1, ds1, p1, q1, rfl, rfl, rfl, h1, r_1⟩ := trodAll_cons r_0
  obtain ⟨v2, vs2, d2, ds2, p2, q2, rfl, rfl, rfl, h2, r_2⟩ := trodAll_cons r_1
  obtain ⟨v3, vs3, d3, ds3, p3, q3, rfl, rfl, rfl, h3, r_3⟩ := trodAll_cons r_2
  obtain ⟨rfl, rfl, rfl⟩ := trodAll_nil r_3
  obtain rfl : args = #[v0, v1, v2, v3] := by cases args; simp_all
  obtain ⟨rfl, rfl⟩ := trodVars_none hV
  obtain ⟨a0, rfl, _, _, w0⟩ := open_int Try.underlying24 (hval 0 24 v0 rfl rfl) h0
  have b0 := bounds_u8 w0
  obtain ⟨a1, rfl, _, _, w1⟩ := open_int Try.underlying24 (hval 1 24 v1 rfl rfl) h1
  have b1 := bounds_u8 w1
  obtain ⟨a2, rfl, _, _, w2⟩ := open_int Try.underlying30 (hval 2 30 v2 rfl rfl) h2
  have b2 := bounds_u8 w2
  obtain ⟨a3, rfl, _, _, w3⟩ := open_int Try.underlying30 (hval 3 30 v3 rfl rfl) h3
  have b3 := bounds_u8 w3
  refine (walk_multFits a0 b0 a1 b1 a2 b2 a3 b3 W).mono fun e W' ⟨he, bel⟩ => ?_
  subst he
  exact ⟨_, rfl, law_post laidOut (by kernel_rfl) rfl rfl Try.underlying4 hW' rfl rfl rfl bel⟩
theorem over : Rows.multFitsRow.holds Try.pinned (OpenSpec.ofChange Rows.multFitsSpec) :=
  OpenClaim.holds_of_wide 6 Try.f6 rfl rfl rfl rfl rfl rfl rfl ⟨rfl, rfl, rfl, rfl, rfl⟩ rfl rfl rfl rfl rfl (by kernel_rfl) Try.func6 (by kernel_rfl)
    (of_decide_eq_true (by kernel_rfl)) (by unfold Func.isWrapper; first | (rw [if_pos (by decide +kernel)]; kernel_rfl) | (rw [if_neg (by decide +kernel)]; exact ⟨rfl, rfl⟩))
    (fun os started H enc _ => lifted os started H enc)
/-- the statement -/
theorem proved : Rows.MultFitsSaid := over
#print axioms proved
end multFits
end Go.Proofs.Ytmpodijbgkcdhaa
