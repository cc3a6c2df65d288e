/- MultKnown holds: the document's examples of uses and multiplicities. No input, no conditions. -/
import Derived.Test.YtmpodijbgkcdhaaLawA
import Derived.Test.YtmpodijbgkcdhaaMultP
import Derived.Test.YtmpodijbgkcdhaaRow
namespace Go.Proofs.Ytmpodijbgkcdhaa
set_option linter.unusedVariables false
set_option linter.unusedSimpArgs false
open Go.ChangeShapes Go.WideShapes Go.ChangeAt Go.RowKit

theorem parse_at (s : ByteArray) (m e : Int) (h1 : parseM s = m) (h2 : parseE s = e) (w : World) :
    Calls Try.prog 23 #[.string s] w fun r w' => r = .returned (.tuple #[.int .u8 m, .int .i64 e]) ∧ Below w.heap.size w w' :=
  (parse_any s w).mono fun _ _ ⟨he, hw⟩ => ⟨by rw [he, h1, h2], hw⟩
theorem join2B_at (a b v : Int) (h : joinI [a, b] = v) (w : World) (B : Nat) (hB : B = w.heap.size) :
    Calls Try.prog 11 #[.slice (some ⟨B, 0, none⟩) 2 2] (w.alloc (Obj.cells #[.int .u8 a, .int .u8 b] 24)) fun e w' => e = .returned (.int .u8 v) ∧ Below (w.alloc (Obj.cells #[.int .u8 a, .int .u8 b] 24)).heap.size (w.alloc (Obj.cells #[.int .u8 a, .int .u8 b] 24)) w' :=
  (join2B a b w B hB).mono fun _ _ ⟨he, hw⟩ => ⟨by rw [he, h], hw⟩
theorem sum2B_at (a b v : Int) (h : sumI [a, b] = v) (w : World) (B : Nat) (hB : B = w.heap.size) :
    Calls Try.prog 12 #[.slice (some ⟨B, 0, none⟩) 2 2] (w.alloc (Obj.cells #[.int .u8 a, .int .u8 b] 24)) fun e w' => e = .returned (.int .u8 v) ∧ Below (w.alloc (Obj.cells #[.int .u8 a, .int .u8 b] 24)).heap.size (w.alloc (Obj.cells #[.int .u8 a, .int .u8 b] 24)) w' :=
  (sum2B a b w B hB).mono fun _ _ ⟨he, hw⟩ => ⟨by rw [he, h], hw⟩

set_option maxHeartbeats 2000000 in
theorem walk_multKnown (w : World) :
    Calls Try.prog 8 #[] w fun e w' => e = .returned (.bool true) ∧ Below w.heap.size w w' := by
  have hbel : Below w.heap.size w w := Below.refl _ _
  go_enter Try.func8, Try.ntmps8
  go_wp2_with fail
  refine (parse_at _ 2 0 (by decide +kernel) (by decide +kernel) _).mono ?_; rintro e w1 ⟨rfl, hb1⟩; replace hbel := stepB hbel hb1; clear hb1
  go_wp2_with fail
  refine (parse_at _ 0 2 (by decide +kernel) (by decide +kernel) _).mono ?_; rintro e w2 ⟨rfl, hb1⟩; replace hbel := stepB hbel hb1; clear hb1
  go_wp2_with fail
  refine (works_any _).mono ?_; rintro e w3 ⟨rfl, hb1⟩; replace hbel := stepB hbel hb1; clear hb1
  go_wp2_with fail
  refine (join2B_at _ _ 1 (by decide +kernel) _ _ rfl).mono ?_; rintro e w4 ⟨rfl, hb1⟩; replace hbel := stepA hbel _ hb1; clear hb1
  go_wp2_with fail
  refine (join0_any _).mono ?_; rintro e w5 ⟨rfl, rfl⟩
  go_wp2_with fail
  refine (sum2B_at _ _ 1 (by decide +kernel) _ _ rfl).mono ?_; rintro e w6 ⟨rfl, hb1⟩; replace hbel := stepA hbel _ hb1; clear hb1
  go_wp2_with fail
  refine (sum0_any _).mono ?_; rintro e w7 ⟨rfl, rfl⟩
  go_wp2_with fail
  refine (scale_at _ _ 3 (by decide +kernel) _).mono ?_; rintro e w8 ⟨rfl, rfl⟩
  go_wp2_with fail
  refine (scale_at _ _ 0 (by decide +kernel) _).mono ?_; rintro e w8 ⟨rfl, rfl⟩
  go_wp2_with fail
  refine (fits_at _ _ true (by decide +kernel) _).mono ?_; rintro e w8 ⟨rfl, rfl⟩
  go_wp2_with fail
  refine (fits_at _ _ true (by decide +kernel) _).mono ?_; rintro e w8 ⟨rfl, rfl⟩
  go_wp2_with fail
  go_ret
  exact ⟨rfl, hbel⟩

/-! ### the row's step -/
namespace multKnown
set_option maxRecDepth 100000 in
theorem lifted (os : Os) (started : os.Started) (H : Type) (enc : TypeId × Value → H) :
    ReturnsInHanded {} Try.checked os 8 .any (Rows.multKnownSpec.pre6 enc Try.prog Try.f8 Rows.multKnownRow.domain false) (Rows.multKnownSpec.post enc Try.prog Try.f8 false true false false) := by
  refine returnsInHanded_of_change (C := Try.checked) own started (by kernel_rfl) Try.func8
    (ChangeSpec.witness6 (enc := enc) (C := Try.checked) false ⟨#[], #[], []⟩ 8 (by kernel_rfl) (by kernel_rfl) (by kernel_rfl) (by kernel_rfl)) ?_
  intro W base args ds gs before hval0 hW hcnd _
  have hval : ∀ (j : Nat) t v, Try.f8.params[j]? = some t → args[j]? = some v → Value.okWide Try.prog W .any base t v := hval0
  have hW' := hW
  obtain ⟨p, q, hA0, hV, rfl, hfz, hnd⟩ := hW
  have hA : DataW.TrodAll enc Try.prog W 0 (fun _ => true) true Try.f8.params.toList args.toList ds p := hA0
  rw [Try.params8] at hA hval
  obtain ⟨hargs, rfl, rfl⟩ := trodAll_nil hA
  obtain rfl : args = #[] := by cases args; simp_all
  obtain ⟨rfl, rfl⟩ := trodVars_none hV
  refine (walk_multKnown  W).mono fun e W' ⟨he, bel⟩ => ?_
  subst he
  exact ⟨_, rfl, law_post laidOut (by kernel_rfl) rfl rfl Try.underlying4 hW' rfl rfl rfl bel⟩
theorem over : Rows.multKnownRow.holds Try.pinned (OpenSpec.ofChange Rows.multKnownSpec) :=
  OpenClaim.holds_of_wide 8 Try.f8 rfl rfl rfl rfl rfl rfl rfl ⟨rfl, rfl, rfl, rfl, rfl⟩ rfl rfl rfl rfl rfl (by kernel_rfl) Try.func8 (by kernel_rfl)
    (of_decide_eq_true (by kernel_rfl)) (by unfold Func.isWrapper; first | (rw [if_pos (by decide +kernel)]; kernel_rfl) | (rw [if_neg (by decide +kernel)]; exact ⟨rfl, rfl⟩))
    (fun os started H enc _ => lifted os started H enc)
/-- the statement -/
theorem proved : Rows.MultKnownSaid := over
#print axioms proved
end multKnown
end Go.Proofs.Ytmpodijbgkcdhaa
