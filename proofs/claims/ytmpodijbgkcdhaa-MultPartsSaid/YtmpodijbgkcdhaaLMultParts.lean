/- MultParts holds for every input: Sum and Join hang on no order, Sum parts over Join, Scale over both, two Scales are one. No conditions. -/
import Derived.Test.YtmpodijbgkcdhaaLawA
import Derived.Test.YtmpodijbgkcdhaaMultQ
import Derived.Test.YtmpodijbgkcdhaaRow
namespace Go.Proofs.Ytmpodijbgkcdhaa
set_option linter.unusedVariables false
set_option linter.unusedSimpArgs false
open Go.ChangeShapes Go.WideShapes Go.ChangeAt Go.RowKit

/-! ### the plain law -/
theorem sum_comm {a b : Int} (ha : 0 ≤ a) (hb : 0 ≤ b) : sumI [a, b] = sumI [b, a] := by
  rw [sum2_eq ha hb, sum2_eq hb ha]
  have h := cl_mem a; have k := cl_mem b
  generalize cl a = x at h ⊢; generalize cl b = y at k ⊢
  revert x y
  decide +kernel
theorem join_comm {a b : Int} (ha : 0 ≤ a) (hb : 0 ≤ b) : joinI [a, b] = joinI [b, a] := by
  rw [join2_eq ha hb, join2_eq hb ha]
  have h := cl_mem a; have k := cl_mem b
  generalize cl a = x at h ⊢; generalize cl b = y at k ⊢
  revert x y
  decide +kernel
theorem sum_mem {a b : Int} (ha : 0 ≤ a) (hb : 0 ≤ b) : sumI [a, b] ∈ ([0, 1, 2, 3] : List Int) := by
  rw [sum2_eq ha hb]; exact sumC_mem _ (cl_mem a) _ (cl_mem b)
theorem join_mem {a b : Int} (ha : 0 ≤ a) (hb : 0 ≤ b) : joinI [a, b] ∈ ([0, 1, 2, 3] : List Int) := by
  rw [join2_eq ha hb]; exact joinC_mem _ (cl_mem a) _ (cl_mem b)
theorem scale_mem {m a : Int} (ha : 0 ≤ a) : scaleI m a ∈ ([0, 1, 2, 3] : List Int) := by
  rw [scale_eq ha]; exact scaleC_mem _ (near_mem m) _ (cl_mem a)
theorem sum_assoc {a b c : Int} (ha : 0 ≤ a) (hb : 0 ≤ b) (hc : 0 ≤ c) : sumI [sumI [a, b], c] = sumI [a, sumI [b, c]] := by
  rw [sum2_eq (mem_nonneg (sum_mem ha hb)) hc, sum2_eq ha (mem_nonneg (sum_mem hb hc)), cl_of_mem (sum_mem ha hb), cl_of_mem (sum_mem hb hc), sum2_eq ha hb, sum2_eq hb hc]
  have h := cl_mem a; have k := cl_mem b; have l := cl_mem c
  generalize cl a = x at h ⊢; generalize cl b = y at k ⊢; generalize cl c = z at l ⊢
  revert x y z
  decide +kernel
theorem join_assoc {a b c : Int} (ha : 0 ≤ a) (hb : 0 ≤ b) (hc : 0 ≤ c) : joinI [joinI [a, b], c] = joinI [a, joinI [b, c]] := by
  rw [join2_eq (mem_nonneg (join_mem ha hb)) hc, join2_eq ha (mem_nonneg (join_mem hb hc)), cl_of_mem (join_mem ha hb), cl_of_mem (join_mem hb hc), join2_eq ha hb, join2_eq hb hc]
  have h := cl_mem a; have k := cl_mem b; have l := cl_mem c
  generalize cl a = x at h ⊢; generalize cl b = y at k ⊢; generalize cl c = z at l ⊢
  revert x y z
  decide +kernel
theorem sum_join {a b c : Int} (ha : 0 ≤ a) (hb : 0 ≤ b) (hc : 0 ≤ c) : sumI [a, joinI [b, c]] = joinI [sumI [a, b], sumI [a, c]] := by
  rw [sum2_eq ha (mem_nonneg (join_mem hb hc)), join2_eq (mem_nonneg (sum_mem ha hb)) (mem_nonneg (sum_mem ha hc)), cl_of_mem (sum_mem ha hb), cl_of_mem (sum_mem ha hc), cl_of_mem (join_mem hb hc), sum2_eq ha hb, sum2_eq ha hc, join2_eq hb hc]
  have h := cl_mem a; have k := cl_mem b; have l := cl_mem c
  generalize cl a = x at h ⊢; generalize cl b = y at k ⊢; generalize cl c = z at l ⊢
  revert x y z
  decide +kernel
theorem scale_sum {m a b : Int} (ha : 0 ≤ a) (hb : 0 ≤ b) : scaleI m (sumI [a, b]) = sumI [scaleI m a, scaleI m b] := by
  rw [scale_eq (mem_nonneg (sum_mem ha hb)), sum2_eq (mem_nonneg (scale_mem ha)) (mem_nonneg (scale_mem hb)), cl_of_mem (scale_mem ha), cl_of_mem (scale_mem hb), cl_of_mem (sum_mem ha hb), sum2_eq ha hb, scale_eq ha, scale_eq hb]
  have h := cl_mem a; have k := cl_mem b; have l := near_mem m
  generalize cl a = x at h ⊢; generalize cl b = y at k ⊢; generalize nearI m = z at l ⊢
  revert x y z
  decide +kernel
theorem scale_join {m a b : Int} (ha : 0 ≤ a) (hb : 0 ≤ b) : scaleI m (joinI [a, b]) = joinI [scaleI m a, scaleI m b] := by
  rw [scale_eq (mem_nonneg (join_mem ha hb)), join2_eq (mem_nonneg (scale_mem ha)) (mem_nonneg (scale_mem hb)), cl_of_mem (scale_mem ha), cl_of_mem (scale_mem hb), cl_of_mem (join_mem ha hb), join2_eq ha hb, scale_eq ha, scale_eq hb]
  have h := cl_mem a; have k := cl_mem b; have l := near_mem m
  generalize cl a = x at h ⊢; generalize cl b = y at k ⊢; generalize nearI m = z at l ⊢
  revert x y z
  decide +kernel
theorem near_max (m n : Int) : nearI (max m n) = max (nearI m) (nearI n) := by
  rw [← nearI_eq, ← nearI_eq, ← nearI_eq]
  omega
theorem scale_scale {m n a : Int} (ha : 0 ≤ a) : scaleI m (scaleI n a) = scaleI (max m n) a := by
  rw [scale_eq (mem_nonneg (scale_mem ha)), cl_of_mem (scale_mem ha), scale_eq (m := max m n) ha, scale_eq ha, near_max]
  have h := cl_mem a; have k := near_mem n; have l := near_mem m
  generalize cl a = x at h ⊢; generalize nearI n = y at k ⊢; generalize nearI m = z at l ⊢
  revert x y z
  decide +kernel

set_option maxHeartbeats 2000000 in
theorem walk_multParts (a : Int) (ha : 0 ≤ a ∧ a ≤ 255) (b : Int) (hb : 0 ≤ b ∧ b ≤ 255) (c : Int) (hc : 0 ≤ c ∧ c ≤ 255) (m : Int) (hm : 0 ≤ m ∧ m ≤ 255) (n : Int) (hn : 0 ≤ n ∧ n ≤ 255) (w : World) :
    Calls Try.prog 5 #[.int .u8 a, .int .u8 b, .int .u8 c, .int .u8 m, .int .u8 n] w fun e w' => e = .returned (.bool true) ∧ Below w.heap.size w w' := by
  have hmx := @run_max2 Try.prog
  have q1 : (sumI [a, b] != sumI [b, a]) = false := by rw [sum_comm ha.1 hb.1]; simp
  have q2 : (joinI [a, b] != joinI [b, a]) = false := by rw [join_comm ha.1 hb.1]; simp
  have q3 : (sumI [sumI [a, b], c] != sumI [a, sumI [b, c]]) = false := by rw [sum_assoc ha.1 hb.1 hc.1]; simp
  have q4 : (joinI [joinI [a, b], c] != joinI [a, joinI [b, c]]) = false := by rw [join_assoc ha.1 hb.1 hc.1]; simp
  have q5 : (sumI [a, joinI [b, c]] != joinI [sumI [a, b], sumI [a, c]]) = false := by rw [sum_join ha.1 hb.1 hc.1]; simp
  have q6 : (scaleI m (sumI [a, b]) != sumI [scaleI m a, scaleI m b]) = false := by rw [scale_sum ha.1 hb.1]; simp
  have q7 : (scaleI m (joinI [a, b]) != joinI [scaleI m a, scaleI m b]) = false := by rw [scale_join ha.1 hb.1]; simp
  have q8 : (scaleI m (scaleI n a) == scaleI (max m n) a) = true := by rw [scale_scale ha.1]; simp
  clear ha hb hc hm hn
  go_enter Try.func5, Try.ntmps5
  go_wp2_with (first
    | (go_at_call 11; refine (join2_any _ _ _ _ (by simp only [World.size_alloc])).mono ?_; rintro e w1 ⟨rfl, rfl⟩)
    | (go_at_call 12; refine (sum2_any _ _ _ _ (by simp only [World.size_alloc])).mono ?_; rintro e w1 ⟨rfl, rfl⟩)
    | (go_at_call 16; refine (scale_any _ _ _).mono ?_; rintro e w1 ⟨rfl, rfl⟩)
    | (go_at_call 10; refine (works_any _).mono ?_; rintro e w2 ⟨rfl, hb2⟩))
  go_ret
  refine ⟨rfl, ?_⟩
  refine Below.trans ?_ (hb2.mono (by simp only [World.size_alloc]; omega))
  repeat refine Below.alloc ?_ (by simp only [World.size_alloc]; omega) _
  exact Below.alloc (Below.refl _ _) (Nat.le_refl _) _

/-! ### the row's step -/
namespace multParts
set_option maxRecDepth 100000 in
theorem lifted (os : Os) (started : os.Started) (H : Type) (enc : TypeId × Value → H) :
    ReturnsInHanded {} Try.checked os 5 .any (Rows.multPartsSpec.pre6 enc Try.prog Try.f5 Rows.multPartsRow.domain false) (Rows.multPartsSpec.post enc Try.prog Try.f5 false true false false) := by
  refine returnsInHanded_of_change (C := Try.checked) own started (by kernel_rfl) Try.func5
    (ChangeSpec.witness6 (enc := enc) (C := Try.checked) false ⟨#[], #[.int .u8 0, .int .u8 0, .int .u8 0, .int .u8 0, .int .u8 0], []⟩ 8 (by kernel_rfl) (by kernel_rfl) (by kernel_rfl) (by kernel_rfl)) ?_
  intro W base args ds gs before hval0 hW hcnd _
  have hval : ∀ (j : Nat) t v, Try.f5.params[j]? = some t → args[j]? = some v → Value.okWide Try.prog W .any base t v := hval0
  have hW' := hW
  obtain ⟨p, q, hA0, hV, rfl, hfz, hnd⟩ := hW
  have hA : DataW.TrodAll enc Try.prog W 0 (fun _ => true) true Try.f5.params.toList args.toList ds p := hA0
  rw [Try.params5] at hA hval
  obtain ⟨v0, vs0, d0, ds0, p0, q0, hargs, rfl, rfl, h0, r_0⟩ := trodAll_cons hA
  obtain ⟨v1, vs1, d1, ds1, p1, q1, rfl, rfl, rfl, h1, r_1⟩ := trodAll_cons r_0
  obtain ⟨v2, vs2, d2, ds2, p2, q2, rfl, rfl, rfl, h2, r_2⟩ := trodAll_cons r_1
  obtain ⟨v3, vs3, d3, ds3, p3, q3, rfl, rfl, rfl, h3, r_3⟩ := trodAll_cons r_2
  obtain ⟨v4, vs4, d4, ds4, p4, q4, rfl, rfl, rfl, h4, r_4⟩ := trodAll_cons r_3
  obtain ⟨rfl, rfl, rfl⟩ := trodAll_nil r_4
  obtain rfl : args = #[v0, v1, v2, v3, v4] := by cases args; simp_all
  obtain ⟨rfl, rfl⟩ := trodVars_none hV
  obtain ⟨a0, rfl, _, _, w0⟩ := open_int Try.underlying24 (hval 0 24 v0 rfl rfl) h0
  have b0 := bounds_u8 w0
  obtain ⟨a1, rfl, _, _, w1⟩ := open_int Try.underlying24 (hval 1 24 v1 rfl rfl) h1
  have b1 := bounds_u8 w1
  obtain ⟨a2, rfl, _, _, w2⟩ := open_int Try.underlying24 (hval 2 24 v2 rfl rfl) h2
  have b2 := bounds_u8 w2
  obtain ⟨a3, rfl, _, _, w3⟩ := open_int Try.underlying30 (hval 3 30 v3 rfl rfl) h3
  have b3 := bounds_u8 w3
  obtain ⟨a4, rfl, _, _, w4⟩ := open_int Try.underlying30 (hval 4 30 v4 rfl rfl) h4
  have b4 := bounds_u8 w4
  refine (walk_multParts a0 b0 a1 b1 a2 b2 a3 b3 a4 b4 W).mono fun e W' ⟨he, bel⟩ => ?_
  subst he
  exact ⟨_, rfl, law_post laidOut (by kernel_rfl) rfl rfl Try.underlying4 hW' rfl rfl rfl bel⟩
theorem over : Rows.multPartsRow.holds Try.pinned (OpenSpec.ofChange Rows.multPartsSpec) :=
  OpenClaim.holds_of_wide 5 Try.f5 rfl rfl rfl rfl rfl rfl rfl ⟨rfl, rfl, rfl, rfl, rfl⟩ rfl rfl rfl rfl rfl (by kernel_rfl) Try.func5 (by kernel_rfl)
    (of_decide_eq_true (by kernel_rfl)) (by unfold Func.isWrapper; first | (rw [if_pos (by decide +kernel)]; kernel_rfl) | (rw [if_neg (by decide +kernel)]; exact ⟨rfl, rfl⟩))
    (fun os started H enc _ => lifted os started H enc)
/-- the statement -/
theorem proved : Rows.MultPartsSaid := over
#print axioms proved
end multParts
end Go.Proofs.Ytmpodijbgkcdhaa
