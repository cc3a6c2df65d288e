/- The contract of the laws' works; plain laws on texts of inequalities. -/
import Derived.Test.YtbccnfgceabopaaDoorIneqV
namespace Go.Proofs.YtbccnfgceabopaaDoor
set_option linter.unusedVariables false
set_option linter.unusedSimpArgs false
open Go.RowKit

theorem t_num (n : Nat) (h : n < 10) : (numT (n : Int)).data.toList = [UInt8.ofNat (48 + n)] := by rw [numT_nat, Lib.decDigits_one h]
theorem t_name3 : (mname 3).data.toList = [109, 51] := by unfold mname; rw [ba_append, show (3 : Int) = ((3 : Nat) : Int) from rfl, t_num 3 (by omega)]; rfl
theorem t_name5 : (mname 5).data.toList = [109, 53] := by unfold mname; rw [ba_append, show (5 : Int) = ((5 : Nat) : Int) from rfl, t_num 5 (by omega)]; rfl
theorem joinB1 (x : ByteArray) : joinB [x] = x := by
  refine ba_ext ?_
  show Lib.join [x.data.toList] [124] = _
  rw [Lib.join_one]
theorem joinB2 (x y : ByteArray) : (joinB [x, y]).data.toList = x.data.toList ++ 124 :: y.data.toList := by
  show Lib.join [x.data.toList, y.data.toList] [124] = _
  rw [join_tail]
  simp

/-! ### the two texts are one -/
theorem textQ_eq {lv lc c r : Int} (h : mayQ lv lc c r = true) : rtextQ lv lc c r = textQ lv lc c r := by
  have hm : (lc = 0 ∧ 0 ≤ lv) ∨ (1 ≤ lc ∧ lc ≤ 3) := by
    unfold mayQ isB oneB at h
    simp only [Bool.or_eq_true, Bool.and_eq_true, decide_eq_true_eq, beq_iff_eq] at h
    omega
  have hc : 1 ≤ c ∧ c ≤ 3 := by
    unfold mayQ at h
    simp only [Bool.and_eq_true, decide_eq_true_eq] at h
    omega
  have hl : rleft lv lc = leftS lv lc := by
    unfold rleft leftS
    rcases hm with ⟨h0, _⟩ | ⟨h1, h2⟩
    · rw [if_pos h0, if_pos h0]; rfl
    · rw [if_neg (by omega), if_neg (by omega), rtext_eq h1 h2]
  unfold rtextQ textQ rightL
  rw [hl, rtext_eq hc.1 hc.2]
  refine ba_ext ?_
  by_cases hr : r < 0
  · rw [if_pos hr, if_pos (.inr hr), if_neg (by omega), List.append_nil, joinB1]
  · rw [if_neg hr, if_pos (show 0 ≤ r by omega)]
    by_cases h1 : 1 < c
    · rw [if_pos h1, if_pos (.inl h1)]
      simp only [ba_append, List.singleton_append, joinB2]
      unfold mname
      rw [ba_append]
      simp [barB, mB]
    · rw [if_neg h1, if_neg (by omega), List.nil_append, joinB1]
      unfold mname
      rw [ba_append, ba_append, ba_append, ba_append, ba_append]
      simp [mB]

/-! ### texts tell inequalities apart -/
theorem dec_dig (n : Nat) : ∀ c ∈ Lib.decDigits n, c ≠ 32 := by
  induction n using Lib.decDigits.induct with
  | case1 n h =>
    rw [Lib.decDigits, dif_pos h]
    intro c hc
    rw [List.mem_singleton] at hc
    subst hc
    intro e
    have := congrArg UInt8.toNat e
    rw [UInt8.toNat_ofNat_of_lt' (by show _ < 256; omega)] at this
    have h2 : (32 : UInt8).toNat = 32 := rfl
    omega
  | case2 n h ih =>
    rw [Lib.decDigits, dif_neg h]
    intro c hc
    rcases List.mem_append.1 hc with hc | hc
    · exact ih c hc
    · rw [List.mem_singleton] at hc
      subst hc
      intro e
      have := congrArg UInt8.toNat e
      rw [UInt8.toNat_ofNat_of_lt' (by show _ < 256; omega)] at this
      have h2 : (32 : UInt8).toNat = 32 := rfl
      omega
theorem mname_sp {a : Int} (ha : 0 ≤ a) : ∀ c ∈ (mname a).data.toList, c ≠ 32 := by
  obtain ⟨x, rfl⟩ := Int.eq_ofNat_of_zero_le ha
  intro c hc
  simp only [mname, ba_append, numT_nat] at hc
  rcases List.mem_append.1 hc with hc | hc
  · simp at hc; subst hc; decide
  · exact dec_dig x c hc
theorem mtext_sp (c : Int) : ∀ x ∈ (mtext c).data.toList, x ≠ 32 := by
  unfold mtext tOne tAff tMany
  split
  · decide
  · split <;> decide
theorem sep_inj32 {x y r s : List UInt8} (hx : ∀ c ∈ x, c ≠ 32) (hy : ∀ c ∈ y, c ≠ 32) (h : x ++ 32 :: r = y ++ 32 :: s) : x = y ∧ r = s := by
  induction x generalizing y with
  | nil =>
    cases y with
    | nil => simpa using h
    | cons b y =>
      simp only [List.nil_append, List.cons_append, List.cons.injEq] at h
      exact absurd h.1.symm (hy b (by simp))
  | cons a x ih =>
    cases y with
    | nil =>
      simp only [List.nil_append, List.cons_append, List.cons.injEq] at h
      exact absurd h.1 (hx a (by simp))
    | cons b y =>
      simp only [List.cons_append, List.cons.injEq] at h
      obtain ⟨h1, h2⟩ := ih (fun c hc => hx c (List.mem_cons_of_mem _ hc)) (fun c hc => hy c (List.mem_cons_of_mem _ hc)) h.2
      exact ⟨by rw [h.1, h1], h2⟩
theorem leftS_inj {lv lc lv' lc' : Int} (h : isB lc lv = true) (h' : isB lc' lv' = true) (e : leftS lv lc = leftS lv' lc') : lv = lv' ∧ lc = lc' := by
  have a : (lc = 0 ∧ 0 ≤ lv) ∨ (1 ≤ lc ∧ lc ≤ 3 ∧ lv = 0) := by
    unfold isB oneB at h
    simp only [Bool.or_eq_true, Bool.and_eq_true, decide_eq_true_eq, beq_iff_eq] at h
    omega
  have b : (lc' = 0 ∧ 0 ≤ lv') ∨ (1 ≤ lc' ∧ lc' ≤ 3 ∧ lv' = 0) := by
    unfold isB oneB at h'
    simp only [Bool.or_eq_true, Bool.and_eq_true, decide_eq_true_eq, beq_iff_eq] at h'
    omega
  unfold leftS at e
  rcases a with ⟨a1, a2⟩ | ⟨a1, a2, a3⟩ <;> rcases b with ⟨b1, b2⟩ | ⟨b1, b2, b3⟩
  · rw [if_pos a1, if_pos b1] at e
    exact ⟨mname_inj a2 b2 e, by omega⟩
  · rw [if_pos a1, if_neg (by omega)] at e
    exact absurd (by rw [← e]; exact mname_head lv) (mtext_head lc')
  · rw [if_neg (by omega), if_pos b1] at e
    exact absurd (by rw [e]; exact mname_head lv') (mtext_head lc)
  · rw [if_neg (by omega), if_neg (by omega)] at e
    exact ⟨by omega, mtext_inj ⟨a1, a2⟩ ⟨b1, b2⟩ e⟩
theorem rightL_ne (c r : Int) : rightL c r ≠ [] := by
  unfold rightL
  by_cases h : 0 ≤ r
  · rw [if_pos h]; simp
  · rw [if_pos (.inr (by omega))]; simp
theorem rightL_mem (c r : Int) : ∀ x ∈ (rightL c r).map (·.data.toList), ∀ b ∈ x, b ≠ 124 := by
  intro x hx
  obtain ⟨y, hy, rfl⟩ := List.mem_map.1 hx
  unfold rightL at hy
  rcases List.mem_append.1 hy with hy | hy
  · split at hy
    · rw [List.mem_singleton] at hy; subst hy; exact mtext_mem c
    · simp at hy
  · split at hy
    · rw [List.mem_singleton] at hy; subst hy; exact mname_mem (by assumption)
    · simp at hy
theorem rightL_inj {c r c' r' : Int} (hc : 1 ≤ c ∧ c ≤ 3) (hr : -1 ≤ r) (hc' : 1 ≤ c' ∧ c' ≤ 3) (hr' : -1 ≤ r') (e : rightL c r = rightL c' r') : c = c' ∧ r = r' := by
  have nm : ∀ (v m : Int), mname v ≠ mtext m := fun v m e => absurd (by rw [← e]; exact mname_head v) (mtext_head m)
  have key : ∀ c r : Int, (1 ≤ c ∧ c ≤ 3) → -1 ≤ r → (r = -1 ∧ rightL c r = [mtext c]) ∨ (0 ≤ r ∧ 1 < c ∧ rightL c r = [mtext c, mname r]) ∨ (0 ≤ r ∧ c = 1 ∧ rightL c r = [mname r]) := by
    intro c r hc hr
    unfold rightL
    by_cases h : 0 ≤ r
    · rw [if_pos h]
      by_cases h1 : 1 < c
      · rw [if_pos (.inl h1)]; exact .inr (.inl ⟨h, h1, rfl⟩)
      · rw [if_neg (by omega)]; exact .inr (.inr ⟨h, by omega, rfl⟩)
    · rw [if_neg h, if_pos (.inr (by omega))]; exact .inl ⟨by omega, rfl⟩
  rcases key c r hc hr with ⟨a1, a2⟩ | ⟨a1, a2, a3⟩ | ⟨a1, a2, a3⟩ <;> rcases key c' r' hc' hr' with ⟨b1, b2⟩ | ⟨b1, b2, b3⟩ | ⟨b1, b2, b3⟩
  · rw [a2, b2] at e; injection e with e; exact ⟨mtext_inj hc hc' e, by omega⟩
  · rw [a2, b3] at e; simp at e
  · rw [a2, b3] at e; injection e with e; exact absurd e.symm (nm _ _)
  · rw [a3, b2] at e; simp at e
  · rw [a3, b3] at e; injection e with e e'; injection e' with e'; exact ⟨mtext_inj hc hc' e, mname_inj a1 b1 e'⟩
  · rw [a3, b3] at e; simp at e
  · rw [a3, b2] at e; injection e with e; exact absurd e (nm _ _)
  · rw [a3, b3] at e; simp at e
  · rw [a3, b3] at e; injection e with e; exact ⟨by omega, mname_inj a1 b1 e⟩
theorem textX_inj {x y : IneqD} (hx : mayX x = true) (hy : mayX y = true) (e : textX x = textX y) : x = y := by
  obtain ⟨lv, lc, c, r⟩ := x
  obtain ⟨lv', lc', c', r'⟩ := y
  unfold mayX mayQ at hx hy
  simp only [Bool.and_eq_true, decide_eq_true_eq] at hx hy
  unfold textX textQ at e
  simp only at e
  have e1 := congrArg (·.data.toList) e
  simp only [ba_append] at e1
  have hs : sepQ.data.toList = 32 :: [60, 61, 32] := rfl
  rw [hs, List.append_assoc, List.append_assoc, List.cons_append, List.cons_append] at e1
  have sp : ∀ lv lc, isB lc lv = true → ∀ b ∈ (leftS lv lc).data.toList, b ≠ 32 := by
    intro lv lc h
    unfold leftS
    split
    · rename_i h0
      refine mname_sp ?_
      unfold isB oneB at h
      simp only [Bool.or_eq_true, Bool.and_eq_true, decide_eq_true_eq, beq_iff_eq] at h
      omega
    · exact mtext_sp lc
  obtain ⟨e2, e3⟩ := sep_inj32 (sp lv lc hx.1.1.1.1) (sp lv' lc' hy.1.1.1.1) e1
  obtain ⟨e4, e5⟩ := leftS_inj hx.1.1.1.1 hy.1.1.1.1 (ba_ext e2)
  have e6 : (joinB (rightL c r)).data.toList = (joinB (rightL c' r')).data.toList := by simpa using e3
  have e7 : (rightL c r).map (·.data.toList) = (rightL c' r').map (·.data.toList) :=
    joinL_inj _ _ (by simp [rightL_ne]) (by simp [rightL_ne]) (rightL_mem c r) (rightL_mem c' r') e6
  obtain ⟨e8, e9⟩ := rightL_inj ⟨hx.1.1.1.2, hx.1.1.2⟩ hx.1.2 ⟨hy.1.1.1.2, hy.1.1.2⟩ hy.1.2 (map_data_inj e7)
  rw [e4, e5, e8, e9]

/-! ### works -/
theorem tx_a : textX ⟨0, 2, 1, 5⟩ = ⟨#[63, 32, 60, 61, 32, 109, 53]⟩ := by
  refine ba_ext ?_
  unfold textX textQ
  rw [ba_append, ba_append, show rightL 1 5 = [mname 5] from rfl, joinB1, t_name5]
  rfl
theorem tx_b : textX ⟨3, 0, 1, 5⟩ = ⟨#[109, 51, 32, 60, 61, 32, 109, 53]⟩ := by
  refine ba_ext ?_
  unfold textX textQ
  rw [ba_append, ba_append, show rightL 1 5 = [mname 5] from rfl, joinB1, t_name5, show leftS 3 0 = mname 3 from rfl, t_name3]
  rfl
theorem ineqs1 {w : World} {b B : Nat} {x : IneqD} (h : Blk w b 36 #[.int .i64 x.lv, .int .u8 x.lc, .int .u8 x.c, .int .i64 x.r]) (hb : b < B) : IneqsV w B (some ⟨b, 0, none⟩) 1 1 [x] :=
  ⟨rfl, Nat.le_refl _, by unfold maxLen; omega, fun _ => ⟨b, 0, rfl, hb, fun i hi => by
    match i, hi with
    | 0, _ => exact ⟨h.cell 0, h.cell 1, h.cell 2, h.cell 3⟩⟩⟩
set_option maxRecDepth 100000 in
theorem worksQ_any (w : World) (ht : Tab w) :
    Calls Tryd.prog 13 #[] w fun e w' => e = .returned (.bool true) ∧ Below w.heap.size w w' := by
  have hbx := below_box (w := w) (Obj.cells #[.int .i64 3] 3)
  have hr : RdI .i64 (w.alloc (Obj.cells #[.int .i64 3] 3)) (w.heap.size + 1) (some ⟨w.heap.size, 0, none⟩) 1 1 [3] := ⟨Rd.new w [.int .i64 3] 3, Nat.le_refl _, by unfold maxLen; omega⟩
  have hq := below_yes (.agg #[.bool false, .int .u8 2, .slice (some ⟨w.heap.size, 0, none⟩) 1 1]) ⟨false, 2, [3]⟩ 1 5 0 _ _ ⟨_, _, _, rfl, hr⟩ (by simp) (by decide +kernel) (by decide) (ht.below hbx)
  rw [show fitsQ ⟨false, 2, [3]⟩ 1 5 0 = [⟨0, 2, 1, 5⟩, ⟨3, 0, 1, 5⟩] from by decide +kernel] at hq
  simp only [List.map_cons, List.map_nil] at hq
  rw [tx_a, tx_b] at hq
  have Hq := Lib.hid hq
  clear hq hr
  go_enter Tryd.func13, Tryd.ntmps13
  go_wp2_with fail
  refine Hq.out.mono ?_
  rintro e w2 ⟨A2, n2, c2, rfl, hs2, hb2⟩
  have hw2 := hbx.trans (hb2.mono hbx.size)
  have hk2 := (blk_new w2 #[.int .i64 0, .int .u8 0, .int .u8 2, .int .i64 1] 36).alloc (Obj.cells #[.int .u8 3, .int .u8 1] 22)
  have hm2 : RdI .u8 ((w2.alloc (Obj.cells #[.int .i64 0, .int .u8 0, .int .u8 2, .int .i64 1] 36)).alloc (Obj.cells #[.int .u8 3, .int .u8 1] 22)) ((w2.alloc (Obj.cells #[.int .i64 0, .int .u8 0, .int .u8 2, .int .i64 1] 36)).heap.size + 1) (some ⟨(w2.alloc (Obj.cells #[.int .i64 0, .int .u8 0, .int .u8 2, .int .i64 1] 36)).heap.size, 0, none⟩) 2 2 [3, 1] := ⟨Rd.new _ [.int .u8 3, .int .u8 1] 22, Nat.le_refl _, by unfold maxLen; omega⟩
  have hbb : Below w2.heap.size w2 ((w2.alloc (Obj.cells #[.int .i64 0, .int .u8 0, .int .u8 2, .int .i64 1] 36)).alloc (Obj.cells #[.int .u8 3, .int .u8 1] 22)) := ((Below.refl _ _).alloc (Nat.le_refl _) _).alloc (by simp) _
  have hx2 := ineqs1 (x := ⟨0, 0, 2, 1⟩) hk2 (show w2.heap.size < ((w2.alloc (Obj.cells #[.int .i64 0, .int .u8 0, .int .u8 2, .int .i64 1] 36)).alloc (Obj.cells #[.int .u8 3, .int .u8 1] 22)).heap.size by simp; omega)
  have hq3 := holds_any _ _ _ _ _ _ _ _ _ hx2 (hm2.more (by simp))
  rw [show holdsAll [3, 1] [⟨0, 0, 2, 1⟩] = (0, 0) from by decide +kernel] at hq3
  rw [show (w2.alloc (Obj.cells #[.int .i64 0, .int .u8 0, .int .u8 2, .int .i64 1] 36)).heap.size = w2.heap.size + 1 by simp] at hq3
  have Hq3 := Lib.hid hq3
  have Hs2 := Lib.hid hs2
  clear hq3 hx2 hm2 hk2 Hq hs2
  go_wp2_with fail
  refine Hq3.out.mono ?_
  rintro e w3 ⟨rfl, hb3⟩
  have hw3 := hw2.trans ((hbb.trans (hb3.mono (by simp; omega))).mono hw2.size)
  have hs3 := (Hs2.out.fresh hbb).fresh hb3
  have hb4 := below_box (w := w3) (Obj.cells #[.string ⟨#[63, 32, 60, 61, 32, 109, 53]⟩, .string ⟨#[109, 51, 32, 60, 61, 32, 109, 53]⟩] 9)
  have hn4 := RdS.new w3 [⟨#[63, 32, 60, 61, 32, 109, 53]⟩, ⟨#[109, 51, 32, 60, 61, 32, 109, 53]⟩] 9 (by decide)
  have hq4 := eqS_any (hs3.fresh hb4) hn4 true (by simp)
  have Hq4 := Lib.hid hq4
  clear hq4 hn4 hs3 Hs2 Hq3
  go_wp2_with fail
  refine Hq4.out.mono ?_
  rintro e w5 ⟨rfl, hb5⟩
  go_wp2_with fail
  go_ret
  exact ⟨rfl, hw3.trans ((hb4.trans (hb5.mono hb4.size)).mono hw3.size)⟩

end Go.Proofs.YtbccnfgceabopaaDoor
