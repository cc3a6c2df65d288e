/- MultLists holds for every input: any number of uses are joined and summed as the document says. No conditions. -/
import Derived.Test.YtmpodijbgkcdhaaLawA
import Derived.Test.YtmpodijbgkcdhaaMultQ
import Derived.Test.YtmpodijbgkcdhaaRow
import Derived.Deep.RegionHeld3
namespace Go.Proofs.Ytmpodijbgkcdhaa
set_option linter.unusedVariables false
set_option linter.unusedSimpArgs false
open Go.ChangeShapes Go.WideShapes Go.ChangeAt Go.RowKit

/-! ### the plain law -/
theorem joinM_lo (us : List Int) : 0 ≤ joinM us := by
  have h : ∀ (l : List Int) (a : Int), 0 ≤ a → 0 ≤ l.foldl (fun a u => max a (min u 3)) a := by
    intro l
    induction l with
    | nil => intro a h; exact h
    | cons u l ih => intro a h; exact ih _ (by show 0 ≤ max a (min u 3); omega)
  exact h us 0 (Int.le_refl _)
theorem joinM_hi (us : List Int) : joinM us ≤ 3 := by
  have h : ∀ (l : List Int) (a : Int), a ≤ 3 → l.foldl (fun a u => max a (min u 3)) a ≤ 3 := by
    intro l
    induction l with
    | nil => intro a h; exact h
    | cons u l ih => intro a h; exact ih _ (by show max a (min u 3) ≤ 3; omega)
  exact h us 0 (by omega)
/-- where the greatest one is Never, each is -/
theorem joinM_zero : ∀ (us : List Int), us ≠ [] → (∀ u ∈ us, 0 ≤ u) → joinM us = 0 → joinN us = true := by
  intro us
  have key : ∀ (l : List Int), (∀ u ∈ l, 0 ≤ u) → ∀ (a : Int) (b : Bool), 0 ≤ a → l.foldl (fun a u => max a (min u 3)) a = 0 → (b = true ∨ l ≠ []) → l.foldl (fun b u => b || u == 0) b = true := by
    intro l
    induction l with
    | nil => intro _ a b _ _ h; rcases h with h | h; exact h; exact absurd rfl h
    | cons u l ih =>
      intro hu a b ha h _
      simp only [List.foldl] at h ⊢
      have h0 : 0 ≤ u := hu u (by simp)
      have hmono : ∀ (l : List Int) (a : Int), a ≤ l.foldl (fun a u => max a (min u 3)) a := by
        intro l
        induction l with
        | nil => intro a; exact Int.le_refl _
        | cons u l ih => intro a; exact Int.le_trans (show a ≤ max a (min u 3) by omega) (ih _)
      have hm := hmono l (max a (min u 3))
      have hu0 : u = 0 := by omega
      refine ih (fun x hx => hu x (by simp [hx])) _ _ (by omega) h (.inl ?_)
      simp [hu0]
  intro hne hu h
  exact key us hu 0 false (Int.le_refl _) h (.inr hne)
def jf (m : Int) (n : Bool) : Int := if n && m != 0 then max m 2 else m
theorem jf_step : ∀ m ∈ ([0, 1, 2, 3] : List Int), ∀ n ∈ [true, false], ∀ x ∈ ([0, 1, 2, 3] : List Int), (m = 0 → n = true) → jf (max m x) (n || x == 0) = joinC (jf m n) x := by decide +kernel
theorem jf_mem : ∀ m ∈ ([0, 1, 2, 3] : List Int), ∀ n ∈ [true, false], jf m n ∈ ([0, 1, 2, 3] : List Int) := by decide +kernel
theorem M_mem (us : List Int) : joinM us ∈ ([0, 1, 2, 3] : List Int) := by
  have := joinM_lo us
  have := joinM_hi us
  simp
  omega
theorem join_snoc {us : List Int} {u : Int} (hne : us ≠ []) (h : ∀ x ∈ us, 0 ≤ x) (hu : 0 ≤ u) : leastB (joinF (joinI us) u) = joinI (us ++ [u]) := by
  have hj : joinI us = jf (joinM us) (joinN us) := rfl
  have hm := jf_mem _ (M_mem us) (joinN us) (by cases joinN us <;> simp)
  rw [← hj] at hm
  rw [← refJoin_eq (mem_nonneg hm) hu, join2_eq (mem_nonneg hm) hu, cl_of_mem hm, hj]
  rw [← jf_step _ (M_mem us) (joinN us) (by cases joinN us <;> simp) _ (cl_mem u) (joinM_zero us hne h)]
  unfold joinI
  rw [joinM_snoc, joinN_snoc, cl_min hu, beq_cl u]
  rfl
theorem join_one {u : Int} (hu : 0 ≤ u) : leastB (joinF u u) = joinI [u] := by
  rw [← refJoin_eq hu hu, join2_eq hu hu]
  have e : joinI [u] = jf (max 0 (cl u)) (cl u == 0) := by
    show jf (max 0 (min u 3)) (false || u == 0) = _
    rw [cl_min hu, beq_cl u, Bool.false_or]
  rw [e]
  have h := cl_mem u
  generalize cl u = x at h ⊢
  revert x
  decide +kernel
theorem sum_lo_mem : ∀ (us : List Int), (∀ u ∈ us, 0 ≤ u) → sumI us ∈ ([0, 1, 2, 3] : List Int) := by
  intro us
  have key : ∀ (l : List Int), (∀ u ∈ l, 0 ≤ u) → ∀ a, 0 ≤ a ∧ a ≤ 3 → 0 ≤ l.foldl (fun a u => if u = 0 then a else if a = 0 then min u 3 else 3) a ∧ l.foldl (fun a u => if u = 0 then a else if a = 0 then min u 3 else 3) a ≤ 3 := by
    intro l
    induction l with
    | nil => intro _ a h; exact h
    | cons u l ih =>
      intro hu a ha
      have h0 : 0 ≤ u := hu u (by simp)
      refine ih (fun x hx => hu x (by simp [hx])) _ ?_
      show 0 ≤ (if u = 0 then a else if a = 0 then min u 3 else 3) ∧ (if u = 0 then a else if a = 0 then min u 3 else 3) ≤ 3
      split
      · exact ha
      · split <;> omega
  intro h
  have := key us h 0 (by omega)
  show sumI us ∈ _
  unfold sumI
  simp only [List.mem_cons, List.not_mem_nil, or_false]
  omega
theorem sum_snoc {us : List Int} {u : Int} (h : ∀ x ∈ us, 0 ≤ x) (hu : 0 ≤ u) : leastB (sumP (sumI us) u 4 0) = sumI (us ++ [u]) := by
  have hm := sum_lo_mem us h
  rw [← refSum_eq (mem_nonneg hm) hu, sumI_snoc]
  show (if u = 0 then (if sumI us = 0 then 0 else if (0 : Int) = 0 then min (sumI us) 3 else 3) else if (if sumI us = 0 then 0 else if (0 : Int) = 0 then min (sumI us) 3 else 3) = 0 then min u 3 else 3) = _
  have e : (if sumI us = 0 then 0 else if (0 : Int) = 0 then min (sumI us) 3 else 3) = sumI us := by
    simp at hm
    split
    · omega
    · rw [if_pos rfl]; omega
  rw [e]
theorem sum_one {u : Int} (hu : 0 ≤ u) : leastB (sumP u 0 4 0) = sumI [u] := by
  rw [← refSum_eq hu (Int.le_refl _)]
  rfl
theorem refJoin_at (a b v : Int) (h : leastB (joinF a b) = v) (w : World) :
    Calls Try.prog 14 #[.int .u8 a, .int .u8 b] w fun e w' => e = .returned (.int .u8 v) ∧ Below w.heap.size w w' :=
  (refJoin_any a b w).mono fun _ _ ⟨he, hw⟩ => ⟨by rw [he, h], hw⟩
theorem refSum_at (a b v : Int) (h : leastB (sumP a b 4 0) = v) (w : World) :
    Calls Try.prog 13 #[.int .u8 a, .int .u8 b] w fun e w' => e = .returned (.int .u8 v) ∧ Below w.heap.size w w' :=
  (refSum_any a b w).mono fun _ _ ⟨he, hw⟩ => ⟨by rw [he, h], hw⟩

set_option maxHeartbeats 2000000 in
theorem walk_multLists (A : Option Addr) (n c : Nat) (us : List Int) (w : World) (hr : Rd w w.heap.size 1 A n (us.map (Value.int .u8))) (hnc : n ≤ c) (hcm : c ≤ maxLen) (hln : us.length = n) (hwf : ∀ u ∈ us, (Lit.int .u8 u).wf = true) :
    Calls Try.prog 3 #[.slice A n c] w fun e w' => e = .returned (.bool true) ∧ Below w.heap.size w w' := by
  have hbel : Below w.heap.size w w := Below.refl _ _
  have hpos : ∀ u ∈ us, 0 ≤ u := fun u hu => (bounds_u8 (hwf u hu)).1
  have Hln := Lib.hid hln; have Hpos := Lib.hid hpos
  clear hwf hln hpos
  unfold maxLen at hcm
  by_cases h1 : 1000 < n
  · go_enter Try.func3, Try.ntmps3
    go_wp2_with fail
    refine (works_any _).mono ?_; rintro e w6 ⟨rfl, hb1⟩; replace hbel := stepB hbel hb1; clear hb1
    go_wp2_with fail
    go_ret
    exact ⟨rfl, hbel⟩
  · by_cases h0 : n = 0
    · subst h0
      go_enter Try.func3, Try.ntmps3
      go_wp2_with fail
      refine (join0_any _).mono ?_; rintro e w5 ⟨rfl, rfl⟩
      go_wp2_with fail
      refine (sum0_any _).mono ?_; rintro e w5 ⟨rfl, rfl⟩
      go_wp2_with fail
      refine (works_any _).mono ?_; rintro e w6 ⟨rfl, hb1⟩; replace hbel := stepB hbel hb1; clear hb1
      go_wp2_with fail
      go_ret
      exact ⟨rfl, hbel⟩
    · have h0' : ((n : Int) == 0) = false := by simp; omega
      have hn1 : 0 < n := by omega
      have hn2 : n ≤ 1000 := by omega
      have hr0 := Lib.hid hr
      obtain ⟨b, off, rfl, hb, hc⟩ := hr.2 (by omega)
      have hlen : 0 < us.length := by rw [Hln.out]; omega
      have hx0 : w.cell? ⟨b, off, none⟩ = some (.int .u8 (us[0]'hlen)) := hc 0 _ (by simp [hlen])
      obtain ⟨x0, Hx0⟩ : ∃ x, Hid (x = us[0]'hlen) := ⟨_, rfl⟩
      rw [← Hx0.out] at hx0
      have Hc := Lib.hid hc
      clear hc hr h0 h1
      go_enter Try.func3, Try.ntmps3
      go_wp2_with fail
      go_region_held3 (fun w' => w'.cell? ⟨b, off, none⟩ = some (.int .u8 x0))
        (first | go_keep | (exact (hb1.cell (p := ⟨b, off, none⟩) hb).trans hx0))
        (first | (go_at_call 13; refine (refSum_any _ _ _).mono ?_; rintro e w1 ⟨rfl, hb1⟩))
      go_wp2_with fail
      have hx0p : 0 ≤ x0 := by rw [Hx0.out]; exact Hpos.out _ (List.getElem_mem _)
      have Hx0p := Lib.hid hx0p
      clear hx0p
      have hus1 : us.take 1 = [x0] := by
        rw [Hx0.out]
        match us, hlen with
        | x :: r, _ => rfl
      have Hus1 := Lib.hid hus1
      clear hus1
      refine (refJoin_at _ _ _ (join_one Hx0p.out) _).mono ?_; rintro e w2 ⟨rfl, hb2⟩
      have hbel2 : Below w.heap.size w w2 := stepB (stepB (Below.refl _ w).drew hb1) hb2
      have hrd := hr0.out.below hbel2
      clear hb1 hb2 hbel hr0 hx0
      rw [sum_one Hx0p.out, ← Hus1.out]
      clear Hus1 Hx0p Hx0 Hc
      by_cases hc1 : c = 1
      · have hn1 : n = 1 := by omega
        subst hc1
        subst hn1
        have hall : us.take 1 = us := List.take_of_length_le (by rw [Hln.out]; exact Nat.le_refl _)
        rw [hall]
        clear hall
        have q1 : (joinI us == joinI us) = true := by simp
        have q2 : (sumI us == sumI us) = true := by simp
        go_wp2_with fail
        refine wp_loop_rounds 1 ?_; rw [rounds_succ]
        go_wp2_with fail
        refine (join_any _ _ _ _ us _ hrd (by omega)).mono ?_; rintro e w3 ⟨rfl, rfl⟩
        go_wp2_with fail
        refine (sum_any _ _ _ _ us _ hrd (by omega)).mono ?_; rintro e w3 ⟨rfl, rfl⟩
        go_wp2_with fail
        refine (works_any _).mono ?_; rintro e w6 ⟨rfl, hb1⟩; replace hbel2 := stepB hbel2 hb1; clear hb1
        go_wp2_with fail
        go_ret
        exact ⟨rfl, hbel2⟩
      · have hc2 : ¬ ((c : Int) = 1) := by omega
        go_wp2_with fail
        go_loopg [3, 4, 36] (n - 1) (fun g j s i wr => ∃ k : Nat, k ≤ n - 1 ∧ g = n - 1 - k ∧ j = .int .u8 (joinI (us.take (k + 1))) ∧ s = .int .u8 (sumI (us.take (k + 1))) ∧ i = .int .i64 k ∧ Below w.heap.size w wr ∧ Rd wr w.heap.size 1 (some ⟨b, off, none⟩) n (us.map (Value.int .u8)))
        case atStart => exact ⟨0, by omega, rfl, rfl, rfl, rfl, hbel2, hrd⟩
        case round =>
          obtain ⟨k, hk, rfl, rfl, rfl, rfl, hbel, hrd'⟩ := hrel
          clear hrd hbel2
          by_cases hlt : k < n - 1
          · have hd : decide ((k : Int) < (n : Int) - 1) = true := by simp; omega
            have hk1 : k + 1 < us.length := by rw [Hln.out]; omega
            obtain ⟨b', off', hbo, hb', hc'⟩ := hrd'.2 (by omega)
            injection hbo with hbo
            injection hbo with e1 e2 _
            subst e1; subst e2
            have hcell : wr.cell? ⟨b, off + 1 + k, none⟩ = some (.int .u8 (us[k + 1]'hk1)) := by
              rw [show off + 1 + k = off + (k + 1) from by omega]
              exact hc' (k + 1) _ (by simp [hk1])
            have hpx : 0 ≤ us[k + 1]'hk1 := Hpos.out _ (List.getElem_mem _)
            have hne : us.take (k + 1) ≠ [] := by
              intro h
              have hl : (us.take (k + 1)).length = k + 1 := by rw [List.length_take]; omega
              rw [h] at hl
              simp at hl
            have htp : ∀ x ∈ us.take (k + 1), 0 ≤ x := fun x hx => Hpos.out x (List.mem_of_mem_take hx)
            have hj : leastB (joinF (joinI (us.take (k + 1))) (us[k + 1]'hk1)) = joinI (us.take (k + 1 + 1)) := by rw [join_snoc hne htp hpx, take_succ_int us (k + 1) hk1]
            have hs : leastB (sumP (sumI (us.take (k + 1))) (us[k + 1]'hk1) 4 0) = sumI (us.take (k + 1 + 1)) := by rw [sum_snoc htp hpx, take_succ_int us (k + 1) hk1]
            have Hj := Lib.hid hj; have Hs := Lib.hid hs
            have Hrd := Lib.hid hrd'
            clear hj hs hne htp hc' hpx hrd'
            go_wp2_with fail
            refine (refJoin_at _ _ _ Hj.out _).mono ?_; rintro e w3 ⟨rfl, hb3⟩
            go_wp2_with fail
            refine (refSum_at _ _ _ Hs.out _).mono ?_; rintro e w4 ⟨rfl, hb4⟩
            go_wp2_with fail
            go_roundg (n - 1 - (k + 1))
            case measure => omega
            case rel => exact ⟨k + 1, by omega, rfl, rfl, rfl, by go_num, stepB (stepB hbel hb3) hb4, (Hrd.out.below (hb3.mono hbel.size)).below (hb4.mono (Nat.le_trans hbel.size hb3.size))⟩
          · have hkn : k = n - 1 := by omega
            subst hkn
            have hall : us.take (n - 1 + 1) = us := List.take_of_length_le (by rw [Hln.out]; omega)
            rw [hall]
            clear hall
            have q1 : (joinI us == joinI us) = true := by simp
            have q2 : (sumI us == sumI us) = true := by simp
            go_wp2_with fail
            refine (join_any _ _ _ _ us _ hrd' (by omega)).mono ?_; rintro e w3 ⟨rfl, rfl⟩
            go_wp2_with fail
            refine (sum_any _ _ _ _ us _ hrd' (by omega)).mono ?_; rintro e w3 ⟨rfl, rfl⟩
            go_wp2_with fail
            refine (works_any _).mono ?_; rintro e w6 ⟨rfl, hb1⟩
            go_wp2_with fail
            go_ret
            exact ⟨rfl, stepB hbel hb1⟩

/-! ### the row's step -/
namespace multLists
set_option maxRecDepth 100000 in
theorem lifted (os : Os) (started : os.Started) (H : Type) (enc : TypeId × Value → H) :
    ReturnsInHanded {} Try.checked os 3 .any (Rows.multListsSpec.pre6 enc Try.prog Try.f3 Rows.multListsRow.domain false) (Rows.multListsSpec.post enc Try.prog Try.f3 false true false false) := by
  refine returnsInHanded_of_change (C := Try.checked) own started (by kernel_rfl) Try.func3
    (ChangeSpec.witness6 (enc := enc) (C := Try.checked) false ⟨#[], #[.slice none 0 0], []⟩ 8 (by kernel_rfl) (by kernel_rfl) (by kernel_rfl) (by kernel_rfl)) ?_
  intro W base args ds gs before hval0 hW hcnd _
  have hval : ∀ (j : Nat) t v, Try.f3.params[j]? = some t → args[j]? = some v → Value.okWide Try.prog W .any base t v := hval0
  have hW' := hW
  obtain ⟨p, q, hA0, hV, rfl, hfz, hnd⟩ := hW
  have hA : DataW.TrodAll enc Try.prog W 0 (fun _ => true) true Try.f3.params.toList args.toList ds p := hA0
  rw [Try.params3] at hA hval
  obtain ⟨v0, vs0, d0, ds0, p0, q0, hargs, rfl, rfl, h0, r_0⟩ := trodAll_cons hA
  obtain ⟨rfl, rfl, rfl⟩ := trodAll_nil r_0
  obtain rfl : args = #[v0] := by cases args; simp_all
  obtain ⟨rfl, rfl⟩ := trodVars_none hV
  obtain ⟨A0, n0, c0, l0, rfl, r0, nc0, cm0, ln0, w0⟩ := rd_ints Try.underlying22 Try.underlying24 (by kernel_rfl) (hval 0 22 v0 rfl rfl) h0
  refine (walk_multLists (w := W) A0 n0 c0 l0 r0 nc0 cm0 ln0 w0).mono fun e W' ⟨he, bel⟩ => ?_
  subst he
  exact ⟨_, rfl, law_post laidOut (by kernel_rfl) rfl rfl Try.underlying4 hW' rfl rfl rfl bel⟩
theorem over : Rows.multListsRow.holds Try.pinned (OpenSpec.ofChange Rows.multListsSpec) :=
  OpenClaim.holds_of_wide 3 Try.f3 rfl rfl rfl rfl rfl rfl rfl ⟨rfl, rfl, rfl, rfl, rfl⟩ rfl rfl rfl rfl rfl (by kernel_rfl) Try.func3 (by kernel_rfl)
    (of_decide_eq_true (by kernel_rfl)) (by unfold Func.isWrapper; first | (rw [if_pos (by decide +kernel)]; kernel_rfl) | (rw [if_neg (by decide +kernel)]; exact ⟨rfl, rfl⟩))
    (fun os started H enc _ => lifted os started H enc)
/-- the statement -/
theorem proved : Rows.MultListsSaid := over
#print axioms proved
end multLists
end Go.Proofs.Ytmpodijbgkcdhaa
