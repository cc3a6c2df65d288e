/- MultTexts holds for every input: each text tells the multiplicity that it is the text of, or none. No conditions. -/
import Derived.Test.YtmpodijbgkcdhaaLawA
import Derived.Test.YtmpodijbgkcdhaaMultP
import Derived.Test.YtmpodijbgkcdhaaMultQ
import Derived.Test.YtmpodijbgkcdhaaRow
namespace Go.Proofs.Ytmpodijbgkcdhaa
set_option linter.unusedVariables false
set_option linter.unusedSimpArgs false
open Go.ChangeShapes Go.WideShapes Go.ChangeAt Go.RowKit

/-! ### the plain law -/
theorem rtext_at (j : Nat) (hj : j < 3) : rtext (1 + (j : Int)) = tAt j := by
  match j, hj with
  | 0, _ => rfl
  | 1, _ => rfl
  | 2, _ => rfl
theorem tAt_ne : tAt 0 ≠ tAt 1 ∧ tAt 0 ≠ tAt 2 ∧ tAt 1 ≠ tAt 2 := by
  refine ⟨?_, ?_, ?_⟩ <;> (intro h; have := congrArg (fun x => x.data.toList) h; revert this; decide)
theorem parse_tAt (s : ByteArray) (j : Nat) (hj : j < 3) (h : s = tAt j) : parseM s = 1 + (j : Int) ∧ parseE s = 0 := by
  obtain ⟨n1, n2, n3⟩ := tAt_ne
  subst h
  match j, hj with
  | 0, _ => exact ⟨by unfold parseM; rw [if_pos rfl]; rfl, by unfold parseE; rw [if_pos rfl]⟩
  | 1, _ => exact ⟨by unfold parseM; rw [if_neg n1.symm, if_pos rfl]; rfl, by unfold parseE; rw [if_neg n1.symm, if_pos rfl]⟩
  | 2, _ => exact ⟨by unfold parseM; rw [if_neg n2.symm, if_neg n3.symm, if_pos rfl]; rfl, by unfold parseE; rw [if_neg n2.symm, if_neg n3.symm, if_pos rfl]⟩
theorem parse_none (s : ByteArray) (h0 : s ≠ tAt 0) (h1 : s ≠ tAt 1) (h2 : s ≠ tAt 2) : parseM s = 0 ∧ parseE s = 2 :=
  ⟨by unfold parseM; rw [if_neg h0, if_neg h1, if_neg h2], by unfold parseE; rw [if_neg h0, if_neg h1, if_neg h2]⟩
theorem mtext_at (m : Int) : ∃ j : Nat, j < 3 ∧ mtext m = tAt j ∧ nearI m = 1 + (j : Int) := by
  have h := near_mem m
  simp at h
  rcases h with h | h | h
  · exact ⟨0, by omega, by simp [mtext, h, tAt, tOne], by omega⟩
  · exact ⟨1, by omega, by simp [mtext, h, tAt, tAff], by omega⟩
  · exact ⟨2, by omega, by simp [mtext, h, tAt, tMany], by omega⟩
theorem parse_mtext (m : Int) : parseM (mtext m) = nearI m ∧ parseE (mtext m) = 0 := by
  obtain ⟨j, hj, h1, h2⟩ := mtext_at m
  have h := parse_tAt (mtext m) j hj h1
  exact ⟨by rw [h.1, h2], h.2⟩
theorem mtext_near (m : Int) : mtext (nearI m) = mtext m := by
  unfold mtext
  rw [near_near]
theorem parse_at (s : ByteArray) (m e : Int) (h1 : parseM s = m) (h2 : parseE s = e) (w : World) :
    Calls Try.prog 23 #[.string s] w fun r w' => r = .returned (.tuple #[.int .u8 m, .int .i64 e]) ∧ Below w.heap.size w w' :=
  (parse_any s w).mono fun _ _ ⟨he, hw⟩ => ⟨by rw [he, h1, h2], hw⟩
theorem refText_at (m : Int) (t : ByteArray) (h : rtext m = t) (w : World) :
    Calls Try.prog 22 #[.int .u8 m] w fun e w' => e = .returned (.string t) ∧ w = w' :=
  (refText_any m w).mono fun _ _ ⟨he, hw⟩ => ⟨by rw [he, h], hw⟩
theorem text_at (m : Int) (t : ByteArray) (h : mtext m = t) (w : World) :
    Calls Try.prog 21 #[.int .u8 m] w fun e w' => e = .returned (.string t) ∧ Below w.heap.size w w' :=
  (text_any m w).mono fun _ _ ⟨he, hw⟩ => ⟨by rw [he, h], hw⟩

set_option maxHeartbeats 2000000 in
theorem walk_multTexts (s : ByteArray) (hs : s.size ≤ maxLen) (m : Int) (hm : 0 ≤ m ∧ m ≤ 255) (w : World) :
    Calls Try.prog 9 #[.string s, .int .u8 m] w fun e w' => e = .returned (.bool true) ∧ Below w.heap.size w w' := by
  have hbel : Below w.heap.size w w := Below.refl _ _
  clear hs hm
  go_enter Try.func9, Try.ntmps9
  go_wp2_with fail
  refine (parse_any s _).mono ?_; rintro e w1 ⟨rfl, hb1⟩; replace hbel := stepB hbel hb1; clear hb1
  go_wp2_with fail
  go_loopg [7] 3 (fun g i wr => ∃ j : Nat, j ≤ 3 ∧ g = 3 - j ∧ i = .int .u8 (1 + (j : Int)) ∧ w1 = wr)
  case atStart => exact ⟨0, by omega, rfl, rfl, rfl⟩
  case round =>
    obtain ⟨j, hj, rfl, rfl, rfl⟩ := hrel
    by_cases hlt : j < 3
    · have hd : decide (1 + (j : Int) ≤ 3) = true := by simp; omega
      by_cases hsj : s = tAt j
      · have hb : ((tAt j).toList == s.toList) = true := by rw [hsj]; simp
        have hp := parse_tAt s j hlt hsj
        have e1 : (parseM s != 1 + (j : Int)) = false := by rw [hp.1]; simp
        have e2 : (parseE s != 0) = false := by rw [hp.2]; simp
        clear hp hsj
        go_wp2_with fail
        refine (refText_at _ _ (rtext_at j hlt) _).mono ?_; rintro e w2 ⟨rfl, rfl⟩
        go_wp2_with fail
        go_roundg (3 - (j + 1))
        case measure => omega
        case rel => exact ⟨j + 1, by omega, rfl, v_int (by omega), rfl⟩
      · have hb : ((tAt j).toList == s.toList) = false := by rw [str_eq]; simp; exact fun e => hsj e.symm
        clear hsj
        go_wp2_with fail
        refine (refText_at _ _ (rtext_at j hlt) _).mono ?_; rintro e w2 ⟨rfl, rfl⟩
        go_wp2_with fail
        go_roundg (3 - (j + 1))
        case measure => omega
        case rel => exact ⟨j + 1, by omega, rfl, v_int (by omega), rfl⟩
    · have hj3 : j = 3 := by omega
      subst hj3
      clear hlt hj
      have hone : ((s.toList == [49]) = true) ∨ ((s.toList == [49]) = false ∧ (s.toList == [63]) = true) ∨ ((s.toList == [49]) = false ∧ (s.toList == [63]) = false ∧ (s.toList == [42]) = true) ∨
          ((s.toList == [49]) = false ∧ (s.toList == [63]) = false ∧ (s.toList == [42]) = false ∧ (parseM s == 0) = true ∧ (parseE s == 2) = true) := by
        have t0 : (tAt 0).toList = [49] := ByteArray.toList_mk [49]
        have t1 : (tAt 1).toList = [63] := ByteArray.toList_mk [63]
        have t2 : (tAt 2).toList = [42] := ByteArray.toList_mk [42]
        rw [← t0, ← t1, ← t2, str_eq, str_eq, str_eq]
        simp only [decide_eq_true_eq, decide_eq_false_iff_not, beq_iff_eq]
        by_cases c0 : s = tAt 0
        · exact .inl c0
        · by_cases c1 : s = tAt 1
          · exact .inr (.inl ⟨c0, c1⟩)
          · by_cases c2 : s = tAt 2
            · exact .inr (.inr (.inl ⟨c0, c1, c2⟩))
            · exact .inr (.inr (.inr ⟨c0, c1, c2, parse_none s c0 c1 c2⟩))
      have hmm : ((mtext m).toList == (mtext m).toList) = true := by simp
      rcases hone with h0 | ⟨h0, h1⟩ | ⟨h0, h1, h2⟩ | ⟨h0, h1, h2, h3, h4⟩
      all_goals
        go_wp2_with fail
        refine (text_any _ _).mono ?_; rintro e w2 ⟨rfl, hb1⟩; replace hbel := stepB hbel hb1; clear hb1
        go_wp2_with fail
        refine (parse_at _ _ _ (parse_mtext m).1 (parse_mtext m).2 _).mono ?_; rintro e w3 ⟨rfl, hb1⟩; replace hbel := stepB hbel hb1; clear hb1
        go_wp2_with fail
        refine (text_at _ _ (mtext_near m) _).mono ?_; rintro e w4 ⟨rfl, hb1⟩; replace hbel := stepB hbel hb1; clear hb1
        go_wp2_with fail
        refine (text_any _ _).mono ?_; rintro e w5 ⟨rfl, hb1⟩; replace hbel := stepB hbel hb1; clear hb1
        go_wp2_with fail
        refine (works_any _).mono ?_; rintro e w6 ⟨rfl, hb1⟩; replace hbel := stepB hbel hb1; clear hb1
        go_wp2_with fail
        go_ret
        exact ⟨rfl, hbel⟩

/-! ### the row's step -/
namespace multTexts
set_option maxRecDepth 100000 in
theorem lifted (os : Os) (started : os.Started) (H : Type) (enc : TypeId × Value → H) :
    ReturnsInHanded {} Try.checked os 9 .any (Rows.multTextsSpec.pre6 enc Try.prog Try.f9 Rows.multTextsRow.domain false) (Rows.multTextsSpec.post enc Try.prog Try.f9 false true false false) := by
  refine returnsInHanded_of_change (C := Try.checked) own started (by kernel_rfl) Try.func9
    (ChangeSpec.witness6 (enc := enc) (C := Try.checked) false ⟨#[], #[.string ⟨#[]⟩, .int .u8 0], []⟩ 8 (by kernel_rfl) (by kernel_rfl) (by kernel_rfl) (by kernel_rfl)) ?_
  intro W base args ds gs before hval0 hW hcnd _
  have hval : ∀ (j : Nat) t v, Try.f9.params[j]? = some t → args[j]? = some v → Value.okWide Try.prog W .any base t v := hval0
  have hW' := hW
  obtain ⟨p, q, hA0, hV, rfl, hfz, hnd⟩ := hW
  have hA : DataW.TrodAll enc Try.prog W 0 (fun _ => true) true Try.f9.params.toList args.toList ds p := hA0
  rw [Try.params9] at hA hval
  obtain ⟨v0, vs0, d0, ds0, p0, q0, hargs, rfl, rfl, h0, r_0⟩ := trodAll_cons hA
  obtain ⟨v1, vs1, d1, ds1, p1, q1, rfl, rfl, rfl, h1, r_1⟩ := trodAll_cons r_0
  obtain ⟨rfl, rfl, rfl⟩ := trodAll_nil r_1
  obtain rfl : args = #[v0, v1] := by cases args; simp_all
  obtain ⟨rfl, rfl⟩ := trodVars_none hV
  obtain ⟨a0, rfl, _, _, b0⟩ := Go.ChangeMaps.open_string Try.underlying9 (hval 0 9 v0 rfl rfl) h0
  obtain ⟨a1, rfl, _, _, w1⟩ := open_int Try.underlying30 (hval 1 30 v1 rfl rfl) h1
  have b1 := bounds_u8 w1
  refine (walk_multTexts a0 b0 a1 b1 W).mono fun e W' ⟨he, bel⟩ => ?_
  subst he
  exact ⟨_, rfl, law_post laidOut (by kernel_rfl) rfl rfl Try.underlying4 hW' rfl rfl rfl bel⟩
theorem over : Rows.multTextsRow.holds Try.pinned (OpenSpec.ofChange Rows.multTextsSpec) :=
  OpenClaim.holds_of_wide 9 Try.f9 rfl rfl rfl rfl rfl rfl rfl ⟨rfl, rfl, rfl, rfl, rfl⟩ rfl rfl rfl rfl rfl (by kernel_rfl) Try.func9 (by kernel_rfl)
    (of_decide_eq_true (by kernel_rfl)) (by unfold Func.isWrapper; first | (rw [if_pos (by decide +kernel)]; kernel_rfl) | (rw [if_neg (by decide +kernel)]; exact ⟨rfl, rfl⟩))
    (fun os started H enc _ => lifted os started H enc)
/-- the statement -/
theorem proved : Rows.MultTextsSaid := over
#print axioms proved
end multTexts
end Go.Proofs.Ytmpodijbgkcdhaa
