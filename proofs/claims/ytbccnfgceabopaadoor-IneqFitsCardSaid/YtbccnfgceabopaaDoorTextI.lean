/- Texts tell terms apart. No program's function. -/
import Derived.Test.YtbccnfgceabopaaDoorRefTx
import Derived.Lib.RowBridge
namespace Go.Proofs.YtbccnfgceabopaaDoor
set_option linter.unusedVariables false
set_option linter.unusedSimpArgs false
open Go.RowKit

theorem u8_ofNat_inj {a b : Nat} (ha : a < 256) (hb : b < 256) (h : UInt8.ofNat a = UInt8.ofNat b) : a = b := by
  have := congrArg UInt8.toNat h
  rwa [UInt8.toNat_ofNat_of_lt' ha, UInt8.toNat_ofNat_of_lt' hb] at this
theorem dec_ne (n : Nat) : Lib.decDigits n ≠ [] := by
  rw [Lib.decDigits]
  split <;> simp
theorem dec_inj : ∀ (a b : Nat), Lib.decDigits a = Lib.decDigits b → a = b
  | a, b, h => by
    rw [Lib.decDigits, Lib.decDigits.eq_def b] at h
    by_cases ha : a < 10
    · rw [dif_pos ha] at h
      by_cases hb : b < 10
      · rw [dif_pos hb] at h
        injection h with h _
        have := u8_ofNat_inj (by omega) (by omega) h
        omega
      · rw [dif_neg hb] at h
        have h1 := congrArg List.length h
        have h2 := List.length_pos_iff.2 (dec_ne (b / 10))
        rw [List.length_append] at h1
        simp only [List.length_cons, List.length_nil] at h1
        omega
    · rw [dif_neg ha] at h
      by_cases hb : b < 10
      · rw [dif_pos hb] at h
        have h1 := congrArg List.length h
        have h2 := List.length_pos_iff.2 (dec_ne (a / 10))
        rw [List.length_append] at h1
        simp only [List.length_cons, List.length_nil] at h1
        omega
      · rw [dif_neg hb] at h
        obtain ⟨h1, h2⟩ := List.append_inj' h (by simp)
        injection h2 with h2 _
        have e1 := dec_inj (a / 10) (b / 10) h1
        have e2 := u8_ofNat_inj (by omega) (by omega) h2
        omega
termination_by a => a
theorem dec_mem (n : Nat) : ∀ c ∈ Lib.decDigits n, c ≠ 124 := by
  induction n using Lib.decDigits.induct with
  | case1 n h =>
    rw [Lib.decDigits, dif_pos h]
    intro c hc
    rw [List.mem_singleton] at hc
    subst hc
    intro e
    have := congrArg UInt8.toNat e
    rw [UInt8.toNat_ofNat_of_lt' (by show _ < 256; omega)] at this
    have h2 : (124 : UInt8).toNat = 124 := rfl
    omega
  | case2 n h ih =>
    rw [Lib.decDigits, dif_neg h]
    intro c hc
    rcases List.mem_append.1 hc with hc | hc
    · exact ih c hc
    · rw [List.mem_singleton] at hc
      subst hc
      intro e
      have := congrArg UInt8.toNat e
      rw [UInt8.toNat_ofNat_of_lt' (by show _ < 256; omega)] at this
      have h2 : (124 : UInt8).toNat = 124 := rfl
      omega
theorem numT_nat (n : Nat) : (numT (n : Int)).data.toList = Lib.decDigits n := by
  unfold numT
  rw [Lib.itoa_nonneg]
theorem mname_inj {a b : Int} (ha : 0 ≤ a) (hb : 0 ≤ b) (h : mname a = mname b) : a = b := by
  obtain ⟨x, rfl⟩ := Int.eq_ofNat_of_zero_le ha
  obtain ⟨y, rfl⟩ := Int.eq_ofNat_of_zero_le hb
  have h1 := congrArg (·.data.toList) h
  simp only [mname, ba_append, numT_nat] at h1
  have := dec_inj x y (List.append_cancel_left h1)
  rw [this]
theorem mname_mem {a : Int} (ha : 0 ≤ a) : ∀ c ∈ (mname a).data.toList, c ≠ 124 := by
  obtain ⟨x, rfl⟩ := Int.eq_ofNat_of_zero_le ha
  intro c hc
  simp only [mname, ba_append, numT_nat] at hc
  rcases List.mem_append.1 hc with hc | hc
  · simp at hc; subst hc; decide
  · exact dec_mem x c hc
/-- what is joined of parts without the sign between them is joined of one list of parts alone -/
theorem sep_inj {x y r s : List UInt8} (hx : ∀ c ∈ x, c ≠ 124) (hy : ∀ c ∈ y, c ≠ 124) (h : x ++ 124 :: r = y ++ 124 :: s) : x = y ∧ r = s := by
  induction x generalizing y with
  | nil =>
    cases y with
    | nil => simpa using h
    | cons b y =>
      simp only [List.nil_append, List.cons_append, List.cons.injEq] at h
      exact absurd h.1.symm (hy b (by simp))
  | cons a x ih =>
    cases y with
    | nil =>
      simp only [List.nil_append, List.cons_append, List.cons.injEq] at h
      exact absurd h.1 (hx a (by simp))
    | cons b y =>
      simp only [List.cons_append, List.cons.injEq] at h
      obtain ⟨h1, h2⟩ := ih (fun c hc => hx c (List.mem_cons_of_mem _ hc)) (fun c hc => hy c (List.mem_cons_of_mem _ hc)) h.2
      exact ⟨by rw [h.1, h1], h2⟩
theorem sep_end {x y s : List UInt8} (hx : ∀ c ∈ x, c ≠ 124) (h : x = y ++ 124 :: s) : False := by
  have : (124 : UInt8) ∈ x := by rw [h]; simp
  exact hx _ this rfl
theorem joinL_inj : ∀ (a b : List (List UInt8)), a ≠ [] → b ≠ [] → (∀ x ∈ a, ∀ c ∈ x, c ≠ 124) → (∀ x ∈ b, ∀ c ∈ x, c ≠ 124) → Lib.join a [124] = Lib.join b [124] → a = b
  | [], _, h, _, _, _, _ => absurd rfl h
  | _, [], _, h, _, _, _ => absurd rfl h
  | [x], [y], _, _, _, _, h => by rw [Lib.join_one, Lib.join_one] at h; rw [h]
  | [x], y :: z :: b, _, _, ha, _, h => by
    rw [Lib.join_one] at h
    unfold Lib.join at h
    rw [List.intercalate_cons_cons, List.append_assoc] at h
    exact (sep_end (ha x (by simp)) h).elim
  | x :: z :: a, [y], _, _, _, hb, h => by
    rw [Lib.join_one] at h
    unfold Lib.join at h
    rw [List.intercalate_cons_cons, List.append_assoc] at h
    exact (sep_end (hb y (by simp)) h.symm).elim
  | x :: z :: a, y :: u :: b, _, _, ha, hb, h => by
    unfold Lib.join at h
    rw [List.intercalate_cons_cons, List.intercalate_cons_cons, List.append_assoc, List.append_assoc] at h
    obtain ⟨h1, h2⟩ := sep_inj (ha x (by simp)) (hb y (by simp)) h
    have := joinL_inj (z :: a) (u :: b) (by simp) (by simp) (fun w hw => ha w (List.mem_cons_of_mem _ hw)) (fun w hw => hb w (List.mem_cons_of_mem _ hw)) h2
    rw [h1, this]
theorem mtext_mem (c : Int) : ∀ x ∈ (mtext c).data.toList, x ≠ 124 := by
  unfold mtext tOne tAff tMany
  split
  · decide
  · split <;> decide
theorem parts_mem {t : TermD} (h : ∀ v ∈ t.vars, 0 ≤ v) : ∀ x ∈ (partsT t).map (·.data.toList), ∀ c ∈ x, c ≠ 124 := by
  intro x hx
  obtain ⟨y, hy, rfl⟩ := List.mem_map.1 hx
  unfold partsT headT at hy
  rcases List.mem_append.1 hy with hy | hy
  · split at hy
    · rw [List.mem_singleton] at hy; subst hy; exact mtext_mem _
    · simp at hy
  · obtain ⟨v, hv, rfl⟩ := List.mem_map.1 hy
    exact mname_mem (h v hv)
theorem map_data_inj {a b : List ByteArray} (h : a.map (·.data.toList) = b.map (·.data.toList)) : a = b := by
  induction a generalizing b with
  | nil => cases b with
    | nil => rfl
    | cons y b => simp at h
  | cons x a ih => cases b with
    | nil => simp at h
    | cons y b =>
      simp only [List.map_cons, List.cons.injEq] at h
      rw [ba_ext h.1, ih h.2]
theorem parts_ne (t : TermD) : partsT t ≠ [] := by
  unfold partsT headT
  by_cases h : 1 < t.c ∨ t.vars = []
  · rw [if_pos h]; simp
  · rw [if_neg h]
    rw [not_or] at h
    simpa using h.2
theorem map_mname_inj : ∀ (a b : List Int), (∀ v ∈ a, 0 ≤ v) → (∀ v ∈ b, 0 ≤ v) → a.map mname = b.map mname → a = b
  | [], [], _, _, _ => rfl
  | [], _ :: _, _, _, h => by simp at h
  | _ :: _, [], _, _, h => by simp at h
  | x :: a, y :: b, ha, hb, h => by
    simp only [List.map_cons, List.cons.injEq] at h
    rw [mname_inj (ha x (by simp)) (hb y (by simp)) h.1, map_mname_inj a b (fun v hv => ha v (List.mem_cons_of_mem _ hv)) (fun v hv => hb v (List.mem_cons_of_mem _ hv)) h.2]
theorem mname_head (v : Int) : (mname v).data.toList.head? = some 109 := by unfold mname; rw [ba_append]; rfl
theorem mtext_head (c : Int) : (mtext c).data.toList.head? ≠ some 109 := by
  unfold mtext tOne tAff tMany
  split
  · decide
  · split <;> decide
theorem mtext_inj {a b : Int} (ha : 1 ≤ a ∧ a ≤ 3) (hb : 1 ≤ b ∧ b ≤ 3) (h : mtext a = mtext b) : a = b := by
  have h1 : a = 1 ∨ a = 2 ∨ a = 3 := by omega
  have h2 : b = 1 ∨ b = 2 ∨ b = 3 := by omega
  rcases h1 with rfl | rfl | rfl <;> rcases h2 with rfl | rfl | rfl <;> first | rfl | (exfalso; revert h; decide)
theorem may_nonneg {t : TermD} (h : mayB t = true) : ∀ v ∈ t.vars, 0 ≤ v := by
  intro v hv
  rcases (may_iff t).1 h with h | h
  · rw [h.2.2] at hv; simp at hv
  · exact (h.2.2.2.2.2 v hv).1
theorem text_not0 {t : TermD} (hn : t.never = false) : textT t ≠ ⟨#[48]⟩ := by
  intro h
  have h1 := congrArg (·.data.toList.head?) h
  unfold textT at h1
  rw [hn] at h1
  simp only [Bool.false_eq_true, if_false, joinB] at h1
  unfold partsT headT at h1
  by_cases hc : 1 < t.c ∨ t.vars = []
  · rw [if_pos hc] at h1
    simp only [List.singleton_append, List.map_cons] at h1
    rw [join_tail] at h1
    have : ∀ s : List UInt8, ((mtext t.c).data.toList ++ s).head? ≠ some 48 := by
      intro s
      unfold mtext tOne tAff tMany
      split
      · simp
      · split <;> simp
    exact this _ h1
  · rw [if_neg hc] at h1
    rw [not_or] at hc
    cases hv : t.vars with
    | nil => exact hc.2 hv
    | cons v r =>
      rw [hv] at h1
      simp only [List.nil_append, List.map_cons] at h1
      rw [join_tail] at h1
      unfold mname at h1
      rw [ba_append] at h1
      simp at h1
theorem text_inj {a b : TermD} (ha : mayB a = true) (hb : mayB b = true) (h : textT a = textT b) : a = b := by
  rcases (may_iff a).1 ha with ⟨a1, a2, a3⟩ | ⟨a1, a2, a3, a4, a5, a6⟩
  · rcases (may_iff b).1 hb with ⟨b1, b2, b3⟩ | ⟨b1, b2, b3, b4, b5, b6⟩
    · cases a; cases b; simp_all
    · exfalso
      refine text_not0 b1 ?_
      rw [← h]
      unfold textT
      rw [a1]; rfl
  · rcases (may_iff b).1 hb with ⟨b1, b2, b3⟩ | ⟨b1, b2, b3, b4, b5, b6⟩
    · exfalso
      refine text_not0 a1 ?_
      rw [h]
      unfold textT
      rw [b1]; rfl
    · have hj : Lib.join ((partsT a).map (·.data.toList)) [124] = Lib.join ((partsT b).map (·.data.toList)) [124] := by
        have := congrArg (·.data.toList) h
        unfold textT at this
        rw [a1, b1] at this
        simpa [joinB] using this
      have hp := map_data_inj (joinL_inj _ _ (by simpa using parts_ne a) (by simpa using parts_ne b) (parts_mem (may_nonneg ha)) (parts_mem (may_nonneg hb)) hj)
      unfold partsT headT at hp
      have hfin : a.c = b.c → a.vars = b.vars → a = b := by
        intro e1 e2
        cases a; cases b; simp_all
      have hcross : ∀ (c : Int) (l : List ByteArray) (vs : List Int), mtext c :: l ≠ vs.map mname := by
        intro c l vs e
        cases vs with
        | nil => simp at e
        | cons v r =>
          simp only [List.map_cons, List.cons.injEq] at e
          have h1 := mname_head v
          rw [← e.1] at h1
          exact mtext_head c h1
      by_cases hca : 1 < a.c ∨ a.vars = []
      · by_cases hcb : 1 < b.c ∨ b.vars = []
        · rw [if_pos hca, if_pos hcb] at hp
          simp only [List.singleton_append, List.cons.injEq] at hp
          exact hfin (mtext_inj ⟨a2, a3⟩ ⟨b2, b3⟩ hp.1) (map_mname_inj _ _ (may_nonneg ha) (may_nonneg hb) hp.2)
        · rw [if_pos hca, if_neg hcb, List.nil_append, List.singleton_append] at hp
          exact (hcross _ _ _ hp).elim
      · by_cases hcb : 1 < b.c ∨ b.vars = []
        · rw [if_neg hca, if_pos hcb, List.nil_append, List.singleton_append] at hp
          exact (hcross _ _ _ hp.symm).elim
        · rw [if_neg hca, if_neg hcb, List.nil_append, List.nil_append] at hp
          rw [not_or] at hca hcb
          exact hfin (by omega) (map_mname_inj _ _ (may_nonneg ha) (may_nonneg hb) hp)

/-! what is joined, summed, scaled may be -/
theorem may_clean {c : Int} {l : List Int} (h1 : 1 ≤ c) (h2 : c ≤ 3) (h : ∀ v ∈ l, 0 ≤ v ∧ v < 1048576) : mayB (cleanT c l) = true := by
  have hmem : ∀ v ∈ (cleanT c l).vars, v ∈ l := by
    intro v hv
    unfold cleanT at hv
    simp only at hv
    split at hv
    · simp at hv
    · exact ((sset_rises l).2 v).1 hv
  refine (may_iff _).2 (.inr ⟨rfl, h1, h2, fun e => ?_, ?_, fun v hv => h v (hmem v hv)⟩)
  · unfold cleanT at e ⊢
    simp only at e ⊢
    rw [if_pos (.inl e)]
  · unfold cleanT
    simp only
    split
    · exact List.Pairwise.nil
    · exact (sset_rises l).1
theorem may_vars {t : TermD} (h : mayB t = true) : ∀ v ∈ t.vars, 0 ≤ v ∧ v < 1048576 := by
  intro v hv
  rcases (may_iff t).1 h with h | h
  · rw [h.2.2] at hv; simp at hv
  · exact h.2.2.2.2.2 v hv
theorem may_c {t : TermD} (h : mayB t = true) (hn : t.never = false) : 1 ≤ t.c ∧ t.c ≤ 3 := by
  rcases (may_iff t).1 h with h' | h'
  · rw [hn] at h'; simp at h'
  · exact ⟨h'.2.1, h'.2.2.1⟩
theorem may_join {a b : TermD} (ha : mayB a = true) (hb : mayB b = true) : mayB (joinT [a, b]) = true := by
  have va := may_vars ha
  have vb := may_vars hb
  cases hna : a.never
  · have ⟨c1, c2⟩ := may_c ha hna
    cases hnb : b.never
    · have ⟨d1, d2⟩ := may_c hb hnb
      have ej : joinT [a, b] = cleanT (max (max 1 a.c) b.c) (a.vars ++ b.vars) := by
        simp [joinT, someT, joinC0, joinCs, joinVs, hna, hnb]
      rw [ej]
      exact may_clean (by omega) (by omega) fun v hv => (List.mem_append.1 hv).elim (va v) (vb v)
    · have ej : joinT [a, b] = cleanT (max 2 a.c) a.vars := by
        simp [joinT, someT, joinC0, joinCs, joinVs, hna, hnb]
      rw [ej]
      exact may_clean (by omega) (by omega) va
  · cases hnb : b.never
    · have ⟨d1, d2⟩ := may_c hb hnb
      have ej : joinT [a, b] = cleanT (max 2 b.c) b.vars := by
        simp [joinT, someT, joinC0, joinCs, joinVs, hna, hnb]
      rw [ej]
      exact may_clean (by omega) (by omega) vb
    · have ej : joinT [a, b] = ⟨true, 0, []⟩ := by simp [joinT, someT, hna, hnb]
      rw [ej]; decide +kernel
theorem may_sum {a b : TermD} (ha : mayB a = true) (hb : mayB b = true) : mayB (sumT [a, b]) = true := by
  unfold sumT
  cases hna : a.never
  · cases hnb : b.never
    · simp only [someT, List.filter_cons, hna, hnb, Bool.not_false, if_true, List.filter_nil]; decide +kernel
    · simp only [someT, List.filter_cons, hna, hnb, Bool.not_false, if_true, List.filter_nil, Bool.not_true, Bool.false_eq_true, if_false]
      have ⟨c1, c2⟩ := may_c ha hna
      exact may_clean c1 c2 (may_vars ha)
  · cases hnb : b.never
    · simp only [someT, List.filter_cons, hna, hnb, Bool.not_false, if_true, List.filter_nil, Bool.not_true, Bool.false_eq_true, if_false]
      have ⟨c1, c2⟩ := may_c hb hnb
      exact may_clean c1 c2 (may_vars hb)
    · simp only [someT, List.filter_cons, hna, hnb, List.filter_nil, Bool.not_true, Bool.false_eq_true, if_false]; decide +kernel
theorem may_scale {c v : Int} {a : TermD} (hi : isB c v = true) (ha : mayB a = true) : mayB (scaleT c v a) = true := by
  unfold scaleT
  cases hna : a.never
  · have ⟨c1, c2⟩ := may_c ha hna
    unfold isB oneB at hi
    simp only [Bool.or_eq_true, Bool.and_eq_true, beq_iff_eq, decide_eq_true_eq] at hi
    simp only [Bool.false_eq_true, if_false]
    by_cases h0 : c = 0
    · rw [if_pos h0]
      refine may_clean c1 c2 fun x hx => ?_
      rcases List.mem_append.1 hx with h | h
      · exact may_vars ha x h
      · rw [List.mem_singleton] at h; subst h; omega
    · rw [if_neg h0]
      exact may_clean (by omega) (by omega) (may_vars ha)
  · simpa using ha
theorem clean_len (c : Int) (l : List Int) : (cleanT c l).vars.length ≤ l.length := by
  unfold cleanT
  simp only
  split
  · simp
  · have := Lib.compact_length_le (l.mergeSort fun x y => decide (x ≤ y))
    rw [List.length_mergeSort] at this
    exact this
theorem join_vlen (a b : TermD) : (joinT [a, b]).vars.length ≤ a.vars.length + b.vars.length := by
  unfold joinT
  split
  · simp
  · refine Nat.le_trans (clean_len _ _) ?_
    unfold joinVs someT
    cases hna : a.never <;> cases hnb : b.never <;> simp [hna, hnb]
theorem scale_vlen (c v : Int) (a : TermD) : (scaleT c v a).vars.length ≤ a.vars.length + 1 := by
  unfold scaleT
  split
  · omega
  · split
    · exact Nat.le_trans (clean_len _ _) (by simp)
    · exact Nat.le_trans (clean_len _ _) (by omega)

end Go.Proofs.YtbccnfgceabopaaDoor
