/- MultOps holds for every input: two uses joined, summed, scaled, fitting, the least multiplicity and the text are the document's. No conditions. -/
import Derived.Test.YtmpodijbgkcdhaaLawA
import Derived.Test.YtmpodijbgkcdhaaMultQ
import Derived.Test.YtmpodijbgkcdhaaRow
namespace Go.Proofs.Ytmpodijbgkcdhaa
set_option linter.unusedVariables false
set_option linter.unusedSimpArgs false
open Go.ChangeShapes Go.WideShapes Go.ChangeAt Go.RowKit

/-- the least of those that were looked at, from 3 down -/
def lst (a : Int) : Nat → Int
  | 0 => 3
  | j + 1 => if fitTo a (3 - j) 4 then 3 - j else lst a j
theorem lst_least {a : Int} (ha : 0 ≤ a) : leastI a = lst a 3 := by
  have h1 := leastI_lo a
  have h2 := leastI_hi a
  have e1 : fitTo a 1 4 = decide (leastI a ≤ 1) := by rw [← refFits_eq (by omega) ha]; rfl
  have e2 : fitTo a 2 4 = decide (leastI a ≤ 2) := by rw [← refFits_eq (by omega) ha]; rfl
  have e3 : fitTo a 3 4 = decide (leastI a ≤ 3) := by rw [← refFits_eq (by omega) ha]; rfl
  show leastI a = (if fitTo a 1 4 then 1 else if fitTo a 2 4 then 2 else if fitTo a 3 4 then 3 else 3)
  rw [e1, e2, e3]
  by_cases c1 : leastI a ≤ 1
  · simp [c1]; omega
  · by_cases c2 : leastI a ≤ 2
    · simp [c1, c2]; omega
    · simp [c1, c2]; omega
theorem refFits_at (u m : Int) (v : Bool) (h : fitTo u m 4 = v) (w : World) :
    Calls Try.prog 19 #[.int .u8 u, .int .u8 m] w fun e w' => e = .returned (.bool v) ∧ w = w' :=
  (refFits_any u m w).mono fun _ _ ⟨he, hw⟩ => ⟨by rw [he, h], hw⟩

set_option maxHeartbeats 2000000 in
theorem walk_multOps (a : Int) (ha : 0 ≤ a ∧ a ≤ 255) (b : Int) (hb : 0 ≤ b ∧ b ≤ 255) (m : Int) (hm : 0 ≤ m ∧ m ≤ 255) (w : World) :
    Calls Try.prog 7 #[.int .u8 a, .int .u8 b, .int .u8 m] w fun e w' => e = .returned (.bool true) ∧ Below w.heap.size w w' := by
  have hbel : Below w.heap.size w w := Below.refl _ _
  have q1 : (joinI [a, b] == leastB (joinF a b)) = true := by rw [refJoin_eq ha.1 hb.1]; simp
  have q2 : (sumI [a, b] == leastB (sumP a b 4 0)) = true := by rw [refSum_eq ha.1 hb.1]; simp
  have q3 : (scaleI m a == leastB (scP m a 4)) = true := by rw [refScale_eq hm.1 ha.1]; simp
  have q4 : (fitsI a m == fitTo a m 4) = true := by rw [refFits_eq hm.1 ha.1]; simp
  have q5 : (leastI a == lst a 3) = true := by rw [lst_least ha.1]; simp
  have q6 : ((mtext m).toList == (rtext m).toList) = true := by rw [refText_eq hm.1]; simp
  have Q1 := Lib.hid q1; have Q2 := Lib.hid q2; have Q3 := Lib.hid q3; have Q4 := Lib.hid q4; have Q5 := Lib.hid q5; have Q6 := Lib.hid q6
  clear q1 q2 q3 q4 q5 q6 ha hb hm
  go_enter Try.func7, Try.ntmps7
  go_wp2_with fail
  go_loopg [7, 8] 3 (fun g l i wr => ∃ j : Nat, j ≤ 3 ∧ g = 3 - j ∧ l = .int .u8 (lst a j) ∧ i = .int .u8 (3 - (j : Int)) ∧ w = wr)
  case atStart => exact ⟨0, by omega, rfl, rfl, rfl, rfl⟩
  case round =>
    obtain ⟨j, hj, rfl, rfl, rfl, rfl⟩ := hrel
    by_cases hlt : j < 3
    · have hd : decide ((1 : Int) ≤ 3 - (j : Int)) = true := by simp; omega
      have hl : lst a (j + 1) = if fitTo a (3 - j) 4 then 3 - (j : Int) else lst a j := rfl
      have HL := Lib.hid hl
      clear hl
      cases h1 : fitTo a (3 - (j : Int)) 4
      all_goals
        have H1 := Lib.hid h1
        clear h1
        go_wp2_with fail
        refine (refFits_at _ _ _ H1.out _).mono ?_; rintro e w1 ⟨rfl, rfl⟩
        go_wp2_with fail
        go_roundg (3 - (j + 1))
        case measure => omega
        case rel => exact ⟨j + 1, by omega, rfl, by rw [HL.out, H1.out]; rfl, v_int (by omega), rfl⟩
    · have hj3 : j = 3 := by omega
      subst hj3
      clear hlt hj
      have q5 := Q5.out
      clear Q5
      go_wp2_with fail
      refine (join2B _ _ _ _ rfl).mono ?_; rintro e w4 ⟨rfl, hb1⟩; replace hbel := stepA hbel _ hb1; clear hb1
      go_wp2_with fail
      refine (refJoin_any _ _ _).mono ?_; rintro e w5 ⟨rfl, hb1⟩; replace hbel := stepB hbel hb1; clear hb1
      have q1 := Q1.out
      go_wp2_with fail
      refine (sum2B _ _ _ _ rfl).mono ?_; rintro e w4 ⟨rfl, hb1⟩; replace hbel := stepA hbel _ hb1; clear hb1
      go_wp2_with fail
      refine (refSum_any _ _ _).mono ?_; rintro e w5 ⟨rfl, hb1⟩; replace hbel := stepB hbel hb1; clear hb1
      have q2 := Q2.out
      go_wp2_with fail
      refine (scale_any _ _ _).mono ?_; rintro e w5 ⟨rfl, rfl⟩
      go_wp2_with fail
      refine (refScale_any _ _ _).mono ?_; rintro e w5 ⟨rfl, hb1⟩; replace hbel := stepB hbel hb1; clear hb1
      have q3 := Q3.out
      go_wp2_with fail
      refine (fits_any _ _ _).mono ?_; rintro e w5 ⟨rfl, rfl⟩
      go_wp2_with fail
      refine (refFits_any _ _ _).mono ?_; rintro e w5 ⟨rfl, rfl⟩
      have q4 := Q4.out
      go_wp2_with fail
      refine (least_any _ _).mono ?_; rintro e w5 ⟨rfl, rfl⟩
      go_wp2_with fail
      refine (text_any _ _).mono ?_; rintro e w5 ⟨rfl, hb1⟩; replace hbel := stepB hbel hb1; clear hb1
      go_wp2_with fail
      refine (refText_any _ _).mono ?_; rintro e w5 ⟨rfl, rfl⟩
      have q6 := Q6.out
      go_wp2_with fail
      refine (works_any _).mono ?_; rintro e w3 ⟨rfl, hb1⟩; replace hbel := stepB hbel hb1; clear hb1
      go_wp2_with fail
      go_ret
      exact ⟨rfl, hbel⟩

/-! ### the row's step -/
namespace multOps
set_option maxRecDepth 100000 in
theorem lifted (os : Os) (started : os.Started) (H : Type) (enc : TypeId × Value → H) :
    ReturnsInHanded {} Try.checked os 7 .any (Rows.multOpsSpec.pre6 enc Try.prog Try.f7 Rows.multOpsRow.domain false) (Rows.multOpsSpec.post enc Try.prog Try.f7 false true false false) := by
  refine returnsInHanded_of_change (C := Try.checked) own started (by kernel_rfl) Try.func7
    (ChangeSpec.witness6 (enc := enc) (C := Try.checked) false ⟨#[], #[.int .u8 0, .int .u8 0, .int .u8 0], []⟩ 8 (by kernel_rfl) (by kernel_rfl) (by kernel_rfl) (by kernel_rfl)) ?_
  intro W base args ds gs before hval0 hW hcnd _
  have hval : ∀ (j : Nat) t v, Try.f7.params[j]? = some t → args[j]? = some v → Value.okWide Try.prog W .any base t v := hval0
  have hW' := hW
  obtain ⟨p, q, hA0, hV, rfl, hfz, hnd⟩ := hW
  have hA : DataW.TrodAll enc Try.prog W 0 (fun _ => true) true Try.f7.params.toList args.toList ds p := hA0
  rw [Try.params7] at hA hval
  obtain ⟨v0, vs0, d0, ds0, p0, q0, hargs, rfl, rfl, h0, r_0⟩ := trodAll_cons hA
  obtain ⟨v1, vs1, d1, ds1, p1, q1, rfl, rfl, rfl, h1, r_1⟩ := trodAll_cons r_0
  obtain ⟨v2, vs2, d2, ds2, p2, q2, rfl, rfl, rfl, h2, r_2⟩ := trodAll_cons r_1
  obtain ⟨rfl, rfl, rfl⟩ := trodAll_nil r_2
  obtain rfl : args = #[v0, v1, v2] := by cases args; simp_all
  obtain ⟨rfl, rfl⟩ := trodVars_none hV
  obtain ⟨a0, rfl, _, _, w0⟩ := open_int Try.underlying24 (hval 0 24 v0 rfl rfl) h0
  have b0 := bounds_u8 w0
  obtain ⟨a1, rfl, _, _, w1⟩ := open_int Try.underlying24 (hval 1 24 v1 rfl rfl) h1
  have b1 := bounds_u8 w1
  obtain ⟨a2, rfl, _, _, w2⟩ := open_int Try.underlying30 (hval 2 30 v2 rfl rfl) h2
  have b2 := bounds_u8 w2
  refine (walk_multOps a0 b0 a1 b1 a2 b2 W).mono fun e W' ⟨he, bel⟩ => ?_
  subst he
  exact ⟨_, rfl, law_post laidOut (by kernel_rfl) rfl rfl Try.underlying4 hW' rfl rfl rfl bel⟩
theorem over : Rows.multOpsRow.holds Try.pinned (OpenSpec.ofChange Rows.multOpsSpec) :=
  OpenClaim.holds_of_wide 7 Try.f7 rfl rfl rfl rfl rfl rfl rfl ⟨rfl, rfl, rfl, rfl, rfl⟩ rfl rfl rfl rfl rfl (by kernel_rfl) Try.func7 (by kernel_rfl)
    (of_decide_eq_true (by kernel_rfl)) (by unfold Func.isWrapper; first | (rw [if_pos (by decide +kernel)]; kernel_rfl) | (rw [if_neg (by decide +kernel)]; exact ⟨rfl, rfl⟩))
    (fun os started H enc _ => lifted os started H enc)
/-- the statement -/
theorem proved : Rows.MultOpsSaid := over
#print axioms proved
end multOps
end Go.Proofs.Ytmpodijbgkcdhaa
