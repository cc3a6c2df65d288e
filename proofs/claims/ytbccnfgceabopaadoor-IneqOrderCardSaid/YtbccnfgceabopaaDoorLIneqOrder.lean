/- IneqOrder holds for every input: a greater bound is kept by all that keeps a lesser one, and never asks more. Conditions: the variables that the row lists are laid as the program's text lays them. -/
import Derived.Test.YtbccnfgceabopaaDoorIneqX
import Derived.Test.YtbccnfgceabopaaDoorRowD
namespace Go.Proofs.YtbccnfgceabopaaDoor
set_option linter.unusedVariables false
set_option linter.unusedSimpArgs false
open Go.ChangeShapes Go.WideShapes Go.ChangeAt Go.RowKit

theorem fitsE_at (tv : Value) (t : TermD) (g mv mc : Int) (b : Bool) (h : fitsB t g mv mc = b) (w : World) (B : Nat) (hv : TermV w B tv t) (hB : B ≤ w.heap.size) (hbig : t.vars.length ≤ 1000000000) :
    Calls Tryd.prog 21 #[tv, .int .u8 g, .agg #[.int .i64 mv, .int .u8 mc]] w (RetQE (if b then fitsQ t g mv mc else []) (if b then 0 else 2) w) := by
  rw [← h]; exact fitsQ_any tv t g mv mc w B hv hB hbig


set_option maxRecDepth 100000 in
set_option maxHeartbeats 2000000 in
theorem walkA_ineqOrder (A : Option Addr) (n cp : Nat) (t : TermD) (g h mv mc : Int) (A' : Option Addr) (n' cp' : Nat) (asg : List Int) (w : World) (ht : Tab w) (hr : RdI .i64 w w.heap.size A n cp t.vars) (ha : RdI .u8 w w.heap.size A' n' cp' asg) :
    Calls Tryd.prog 6 #[.agg #[.bool t.never, .int .u8 t.c, .slice A n cp], .int .u8 g, .int .u8 h, .agg #[.int .i64 mv, .int .u8 mc], .slice A' n' cp'] w fun e w' => e = .returned (.bool true) ∧ Below w.heap.size w w' := by
  have hmx := @run_max2 Tryd.prog
  have Ht := Lib.hid ht
  have Ha := Lib.hid ha
  have hl := hr.len
  clear ht ha
  by_cases hbig : 5000 < n
  · have hbg : decide ((5000 : Int) < n) = true := by simp; omega
    clear hl
    obtain ⟨hb0, hs0, ht0, hm0⟩ := F0_facts t A n cp mv mc w
    have hr0 := (hr.more (Nat.le_refl _)).below hb0
    have tx : ∀ w', Below (w.heap.size + 2) (F0 t A n cp mv mc w) w' → w'.cell? ⟨w.heap.size, 0, none⟩ = some (.bool t.never) ∧ w'.cell? ⟨w.heap.size, 1, none⟩ = some (.int .u8 t.c) ∧ w'.cell? ⟨w.heap.size, 2, none⟩ = some (.slice A n cp) ∧ w'.cell? ⟨w.heap.size + 1, 0, none⟩ = some (.int .i64 mv) ∧ w'.cell? ⟨w.heap.size + 1, 1, none⟩ = some (.int .u8 mc) := fun w' hb => ⟨(ht0.below hb (by omega)).cell 0, (ht0.below hb (by omega)).cell 1, (ht0.below hb (by omega)).cell 2, (hm0.below hb (by omega)).cell 0, (hm0.below hb (by omega)).cell 1⟩
    have Tx := Lib.hid tx
    obtain ⟨x0, x1, x2, y0, y1⟩ := tx _ (Below.refl _ _)
    clear tx ht0 hm0
    go_enter Tryd.func6, Tryd.ntmps6
    go_wp2_with fail
    refine (worksQ_any (F0 t A n cp mv mc w) (Ht.out.below hb0)).mono ?_; rintro e w8 ⟨rfl, hb8⟩
    go_wp2_with fail
    go_ret
    exact ⟨rfl, hb0.trans (hb8.mono hb0.size)⟩
  · have hbg : decide ((5000 : Int) < n) = false := by simp; omega
    have Hn : Hid (t.vars.length ≤ 1000000000) := by show _ ≤ _; omega
    clear hl hbig
    cases hA : fitsB t g mv mc
    · have HA := Lib.hid hA
      clear hA
      cases hB : fitsB t (max g h) mv mc
      all_goals
        have HB := Lib.hid hB
        clear hB
        obtain ⟨hb0, hs0, ht0, hm0⟩ := F0_facts t A n cp mv mc w
        have hr0 := (hr.more (Nat.le_refl _)).below hb0
        have tx : ∀ w', Below (w.heap.size + 2) (F0 t A n cp mv mc w) w' → w'.cell? ⟨w.heap.size, 0, none⟩ = some (.bool t.never) ∧ w'.cell? ⟨w.heap.size, 1, none⟩ = some (.int .u8 t.c) ∧ w'.cell? ⟨w.heap.size, 2, none⟩ = some (.slice A n cp) ∧ w'.cell? ⟨w.heap.size + 1, 0, none⟩ = some (.int .i64 mv) ∧ w'.cell? ⟨w.heap.size + 1, 1, none⟩ = some (.int .u8 mc) := fun w' hb => ⟨(ht0.below hb (by omega)).cell 0, (ht0.below hb (by omega)).cell 1, (ht0.below hb (by omega)).cell 2, (hm0.below hb (by omega)).cell 0, (hm0.below hb (by omega)).cell 1⟩
        have Tx := Lib.hid tx
        obtain ⟨x0, x1, x2, y0, y1⟩ := tx _ (Below.refl _ _)
        clear tx ht0 hm0
        go_enter Tryd.func6, Tryd.ntmps6
        go_wp2_with fail
        refine (fitsE_at (.agg #[.bool t.never, .int .u8 t.c, .slice A n cp]) t g mv mc false HA.out (F0 t A n cp mv mc w) w.heap.size ⟨A, n, cp, rfl, hr0⟩ (by omega) Hn.out).mono ?_
        rintro e w1 ⟨A1, n1, c1, rfl, hx1, hb1⟩
        clear x0 x1 x2 y0 y1
        generalize hF : F0 t A n cp mv mc w = w0 at hb0 hs0 hr0 Tx hb1 ⊢
        clear hF
        have hk1 := hb1.mono (show w.heap.size + 2 ≤ w0.heap.size by omega)
        have hw1 := hb0.trans (hb1.mono (by omega))
        have hr1 := hr0.below (hk1.mono (by omega))
        have hz1 : w.heap.size + 2 ≤ w1.heap.size := by have := hb1.size; omega
        obtain ⟨x0, x1, x2, y0, y1⟩ := Tx.out _ hk1
        clear hb1
        have Hx1 := Lib.hid hx1
        clear hx1
        go_wp2_with fail
        refine (fitsE_at (.agg #[.bool t.never, .int .u8 t.c, .slice A n cp]) t (max g h) mv mc _ HB.out w1 w.heap.size ⟨A, n, cp, rfl, hr1⟩ (by omega) Hn.out).mono ?_
        rintro e w2 ⟨A2, n2, c2, rfl, hx2, hb2⟩
        have hw2 := hw1.trans (hb2.mono hw1.size)
        have hx1' := Hx1.out.below hb2
        have hz2 := hb2.size
        have Hx2 := Lib.hid hx2
        have Hx1' := Lib.hid (hx1'.more hz2)
        clear x0 x1 x2 y0 y1 hx2 hx1' Hx1 hb2
        go_wp2_with fail
        try simp only [Bool.false_eq_true, if_false]
        go_wp2_with fail
        refine (worksQ_any w2 (Ht.out.below hw2)).mono ?_; rintro e w8 ⟨rfl, hb8⟩
        go_wp2_with fail
        go_ret
        exact ⟨rfl, hw2.trans (hb8.mono hw2.size)⟩
    · have HA := Lib.hid hA
      cases hB : fitsB t (max g h) mv mc
      · have HB := Lib.hid hB
        clear hA hB
        obtain ⟨hb0, hs0, ht0, hm0⟩ := F0_facts t A n cp mv mc w
        have hr0 := (hr.more (Nat.le_refl _)).below hb0
        have tx : ∀ w', Below (w.heap.size + 2) (F0 t A n cp mv mc w) w' → w'.cell? ⟨w.heap.size, 0, none⟩ = some (.bool t.never) ∧ w'.cell? ⟨w.heap.size, 1, none⟩ = some (.int .u8 t.c) ∧ w'.cell? ⟨w.heap.size, 2, none⟩ = some (.slice A n cp) ∧ w'.cell? ⟨w.heap.size + 1, 0, none⟩ = some (.int .i64 mv) ∧ w'.cell? ⟨w.heap.size + 1, 1, none⟩ = some (.int .u8 mc) := fun w' hb => ⟨(ht0.below hb (by omega)).cell 0, (ht0.below hb (by omega)).cell 1, (ht0.below hb (by omega)).cell 2, (hm0.below hb (by omega)).cell 0, (hm0.below hb (by omega)).cell 1⟩
        have Tx := Lib.hid tx
        obtain ⟨x0, x1, x2, y0, y1⟩ := tx _ (Below.refl _ _)
        clear tx ht0 hm0
        go_enter Tryd.func6, Tryd.ntmps6
        go_wp2_with fail
        refine (fitsE_at (.agg #[.bool t.never, .int .u8 t.c, .slice A n cp]) t g mv mc true HA.out (F0 t A n cp mv mc w) w.heap.size ⟨A, n, cp, rfl, hr0⟩ (by omega) Hn.out).mono ?_
        rintro e w1 ⟨A1, n1, c1, rfl, hx1, hb1⟩
        clear x0 x1 x2 y0 y1
        generalize hF : F0 t A n cp mv mc w = w0 at hb0 hs0 hr0 Tx hb1 ⊢
        clear hF
        have hk1 := hb1.mono (show w.heap.size + 2 ≤ w0.heap.size by omega)
        have hw1 := hb0.trans (hb1.mono (by omega))
        have hr1 := hr0.below (hk1.mono (by omega))
        have hz1 : w.heap.size + 2 ≤ w1.heap.size := by have := hb1.size; omega
        obtain ⟨x0, x1, x2, y0, y1⟩ := Tx.out _ hk1
        clear hb1
        have Hx1 := Lib.hid hx1
        clear hx1
        go_wp2_with fail
        refine (fitsE_at (.agg #[.bool t.never, .int .u8 t.c, .slice A n cp]) t (max g h) mv mc false HB.out w1 w.heap.size ⟨A, n, cp, rfl, hr1⟩ (by omega) Hn.out).mono ?_
        rintro e w2 ⟨A2, n2, c2, rfl, hx2, hb2⟩
        have hw2 := hw1.trans (hb2.mono hw1.size)
        have hx1' := Hx1.out.below hb2
        have hz2 := hb2.size
        have Hx2 := Lib.hid hx2
        have Hx1' := Lib.hid (hx1'.more hz2)
        clear x0 x1 x2 y0 y1 hx2 hx1' Hx1 hb2
        go_wp2_with fail
        try simp only [Bool.false_eq_true, if_false]
        go_wp2_with fail
        refine (worksQ_any w2 (Ht.out.below hw2)).mono ?_; rintro e w8 ⟨rfl, hb8⟩
        go_wp2_with fail
        go_ret
        exact ⟨rfl, hw2.trans (hb8.mono hw2.size)⟩
      · have HB := Lib.hid hB
        have Hlaw : Hid ((holdsAll asg (fitsQ t g mv mc)).2 = 0 → (holdsAll asg (fitsQ t (max g h) mv mc)).2 = 0 ∧ (0 ≤ (holdsAll asg (fitsQ t g mv mc)).1 ∨ (holdsAll asg (fitsQ t (max g h) mv mc)).1 < 0) ∧ (fitsQ t (max g h) mv mc).length ≤ (fitsQ t g mv mc).length) := Lib.hid (order_law hA hB)
        clear hA hB
        obtain ⟨hb0, hs0, ht0, hm0⟩ := F0_facts t A n cp mv mc w
        have hr0 := (hr.more (Nat.le_refl _)).below hb0
        have tx : ∀ w', Below (w.heap.size + 2) (F0 t A n cp mv mc w) w' → w'.cell? ⟨w.heap.size, 0, none⟩ = some (.bool t.never) ∧ w'.cell? ⟨w.heap.size, 1, none⟩ = some (.int .u8 t.c) ∧ w'.cell? ⟨w.heap.size, 2, none⟩ = some (.slice A n cp) ∧ w'.cell? ⟨w.heap.size + 1, 0, none⟩ = some (.int .i64 mv) ∧ w'.cell? ⟨w.heap.size + 1, 1, none⟩ = some (.int .u8 mc) := fun w' hb => ⟨(ht0.below hb (by omega)).cell 0, (ht0.below hb (by omega)).cell 1, (ht0.below hb (by omega)).cell 2, (hm0.below hb (by omega)).cell 0, (hm0.below hb (by omega)).cell 1⟩
        have Tx := Lib.hid tx
        obtain ⟨x0, x1, x2, y0, y1⟩ := tx _ (Below.refl _ _)
        clear tx ht0 hm0
        go_enter Tryd.func6, Tryd.ntmps6
        go_wp2_with fail
        refine (fitsE_at (.agg #[.bool t.never, .int .u8 t.c, .slice A n cp]) t g mv mc true HA.out (F0 t A n cp mv mc w) w.heap.size ⟨A, n, cp, rfl, hr0⟩ (by omega) Hn.out).mono ?_
        rintro e w1 ⟨A1, n1, c1, rfl, hx1, hb1⟩
        clear x0 x1 x2 y0 y1
        generalize hF : F0 t A n cp mv mc w = w0 at hb0 hs0 hr0 Tx hb1 ⊢
        clear hF
        have hk1 := hb1.mono (show w.heap.size + 2 ≤ w0.heap.size by omega)
        have hw1 := hb0.trans (hb1.mono (by omega))
        have hr1 := hr0.below (hk1.mono (by omega))
        have hz1 : w.heap.size + 2 ≤ w1.heap.size := by have := hb1.size; omega
        obtain ⟨x0, x1, x2, y0, y1⟩ := Tx.out _ hk1
        clear hb1
        have Hx1 := Lib.hid hx1
        clear hx1
        go_wp2_with fail
        refine (fitsE_at (.agg #[.bool t.never, .int .u8 t.c, .slice A n cp]) t (max g h) mv mc true HB.out w1 w.heap.size ⟨A, n, cp, rfl, hr1⟩ (by omega) Hn.out).mono ?_
        rintro e w2 ⟨A2, n2, c2, rfl, hx2, hb2⟩
        have hw2 := hw1.trans (hb2.mono hw1.size)
        have hx1' := Hx1.out.below hb2
        have hz2 := hb2.size
        have Hx2 := Lib.hid hx2
        have Hx1' := Lib.hid (hx1'.more hz2)
        clear x0 x1 x2 y0 y1 hx2 hx1' Hx1 hb2
        go_wp2_with fail
        simp only [if_true] at Hx1' Hx2 ⊢
        have Hl1 := Lib.hid Hx1'.out.len
        have Hl2 := Lib.hid Hx2.out.len
        go_wp2_with fail
        refine (holds_any A1 n1 c1 _ A' n' cp' asg w2 Hx1'.out ((Ha.out.below hw2).more hw2.size)).mono ?_; rintro e w3 ⟨rfl, hb3⟩
        have hw3 := hw2.trans (hb3.mono hw2.size)
        have Hx3 := Lib.hid ((Hx2.out.below hb3).more hb3.size)
        clear hb3 Hx2 Hx1'
        by_cases he : (holdsAll asg (fitsQ t g mv mc)).2 = 0
        · obtain ⟨l1, l2, l3⟩ := Hlaw.out he
          rw [he]
          rw [Hl1.out, Hl2.out] at l3
          generalize (holdsAll asg (fitsQ t g mv mc)).1 = q1 at l2 ⊢
          have HE := Lib.hid l1
          clear he l1 Hlaw
          go_wp2_with fail
          refine (holds_any A2 n2 c2 _ A' n' cp' asg w3 Hx3.out ((Ha.out.below hw3).more hw3.size)).mono ?_; rintro e w4 ⟨rfl, hb4⟩
          have hw4 := hw3.trans (hb4.mono hw3.size)
          rw [HE.out]
          generalize (holdsAll asg (fitsQ t (max g h) mv mc)).1 = q2 at l2 ⊢
          have d3 : decide ((n2 : Int) ≤ n1) = true := by simp; omega
          by_cases hq : 0 ≤ q1
          · clear l2
            go_wp2_with fail
            refine (worksQ_any w4 (Ht.out.below hw4)).mono ?_; rintro e w8 ⟨rfl, hb8⟩
            go_wp2_with fail
            go_ret
            exact ⟨rfl, hw4.trans (hb8.mono hw4.size)⟩
          · have hq2 : q2 < 0 := by omega
            clear l2
            go_wp2_with fail
            refine (worksQ_any w4 (Ht.out.below hw4)).mono ?_; rintro e w8 ⟨rfl, hb8⟩
            go_wp2_with fail
            go_ret
            exact ⟨rfl, hw4.trans (hb8.mono hw4.size)⟩
        · have hne : ((holdsAll asg (fitsQ t g mv mc)).2 != 0) = true := by simp [he]
          generalize (holdsAll asg (fitsQ t g mv mc)).2 = q2 at hne ⊢
          generalize (holdsAll asg (fitsQ t g mv mc)).1 = q1
          clear he Hlaw
          go_wp2_with fail
          refine (worksQ_any w3 (Ht.out.below hw3)).mono ?_; rintro e w8 ⟨rfl, hb8⟩
          go_wp2_with fail
          go_ret
          exact ⟨rfl, hw3.trans (hb8.mono hw3.size)⟩

theorem walk_ineqOrder (w : World) (ht : Tab w) (v1 : Value) (h1 : TermIn w v1) (g : Int) (hg : 0 ≤ g ∧ g ≤ 255) (h : Int) (hh : 0 ≤ h ∧ h ≤ 255) (v3 : Value) (h3 : MuIn v3) (v4 : Value) (h4 : MultsIn w v4) :
    Calls Tryd.prog 6 #[v1, .int .u8 g, .int .u8 h, v3, v4] w fun e w' => e = .returned (.bool true) ∧ Below w.heap.size w w' := by
  obtain ⟨t, ⟨A, n, c, rfl, hr⟩, _⟩ := h1
  obtain ⟨V, C, rfl, _⟩ := h3
  obtain ⟨A', n', c', asg, rfl, ha, _⟩ := h4
  exact walkA_ineqOrder A n c t g h V C A' n' c' asg w ht hr ha

/-! ### the row's step -/
namespace ineqOrder
set_option maxRecDepth 100000 in
theorem lifted (os : Os) (started : os.Started) (H : Type) (enc : TypeId × Value → H) :
    ReturnsInHanded {} Tryd.checked os 6 .any (fun w args => (Rows.ineqOrderSpec.pre enc Tryd.prog Tryd.f6 [] false w args ∧ laidMetH Tryd.prog laid3 w) ∧ sizedMet enc Tryd.prog Tryd.f6 (OpenSpec.ofChange Rows.ineqOrderSpec) false w args) (Rows.ineqOrderSpec.post enc Tryd.prog Tryd.f6 false true false false) := by
  refine returnsInHanded_of_change_and (C := Tryd.checked) (X := fun w _ => laidMetH Tryd.prog laid3 w) (fun _ _ _ hh h => h.of_heap hh) own started (by kernel_rfl) Tryd.func6
    (ChangeSpec.witness_shaped (enc := enc) (C := Tryd.checked) (os := os) (X := fun w _ => laidMetH Tryd.prog laid3 w) false (World.doorLaid Tryd.prog 400 os) #[.agg #[.bool false, .int .u8 0, .slice none 0 0], .int .u8 0, .int .u8 0, .agg #[.int .i64 0, .int .u8 0], .slice none 0 0] 8 rfl (World.shaped_of_RefB (by kernel_rfl) (by kernel_rfl)) (by kernel_rfl) (by kernel_rfl) (by kernel_rfl) (door_met os _)) ?_
  intro W base args ds gs before hval0 hW hcnd hsz0 hL _
  have hsz : (DataW.weightsEach Tryd.prog (Tryd.f6.params.toList ++ Rows.ineqOrderSpec.plain.varTypes Tryd.prog) (ds ++ gs)).all (· ≤ reachBytes) = true := hsz0
  have hval : ∀ (j : Nat) t v, Tryd.f6.params[j]? = some t → args[j]? = some v → Value.okWide Tryd.prog W .any base t v := hval0
  have hW' := hW
  obtain ⟨p, q, hA0, hV, rfl, hfz, hnd⟩ := hW
  have hA : DataW.TrodAll enc Tryd.prog W 0 (fun _ => true) true Tryd.f6.params.toList args.toList ds p := hA0
  rw [Tryd.params6] at hA hval hsz
  obtain ⟨v0, vs0, d0, ds0, p0, q0, hargs, rfl, rfl, h0, r_0⟩ := trodAll_cons hA
  obtain ⟨v1, vs1, d1, ds1, p1, q1, rfl, rfl, rfl, h1, r_1⟩ := trodAll_cons r_0
  obtain ⟨v2, vs2, d2, ds2, p2, q2, rfl, rfl, rfl, h2, r_2⟩ := trodAll_cons r_1
  obtain ⟨v3, vs3, d3, ds3, p3, q3, rfl, rfl, rfl, h3, r_3⟩ := trodAll_cons r_2
  obtain ⟨v4, vs4, d4, ds4, p4, q4, rfl, rfl, rfl, h4, r_4⟩ := trodAll_cons r_3
  obtain ⟨rfl, rfl, rfl⟩ := trodAll_nil r_4
  obtain rfl : args = #[v0, v1, v2, v3, v4] := by cases args; simp_all
  obtain ⟨rfl, rfl⟩ := trodVars_none hV
  have w0 := rd_term (hval 0 25 v0 rfl rfl) h0
  obtain ⟨a1, rfl, _, _, w1⟩ := open_int Tryd.underlying22 (hval 1 22 v1 rfl rfl) h1
  have b1 := bounds_u8 w1
  obtain ⟨a2, rfl, _, _, w2⟩ := open_int Tryd.underlying22 (hval 2 22 v2 rfl rfl) h2
  have b2 := bounds_u8 w2
  have w3 := rd_mu (hval 3 31 v3 rfl rfl) h3
  have w4 := rd_mults (hval 4 38 v4 rfl rfl) h4
  refine (walk_ineqOrder (w := W) (tab_of_laid hL) v0 w0 a1 b1 a2 b2 v3 w3 v4 w4).mono fun e W' ⟨he, bel⟩ => ?_
  subst he
  exact ⟨_, rfl, law_post laidOut (by kernel_rfl) rfl rfl Tryd.underlying4 hW' rfl rfl rfl bel⟩
theorem over : Rows.ineqOrderRow.holds Tryd.pinned (OpenSpec.ofChange Rows.ineqOrderSpec) :=
  OpenClaim.holds_of_wide 6 Tryd.f6 rfl rfl rfl rfl rfl rfl rfl ⟨rfl, rfl, rfl, rfl, rfl⟩ rfl rfl rfl rfl rfl (by kernel_rfl) Tryd.func6 (by kernel_rfl)
    (of_decide_eq_true (by kernel_rfl)) (by unfold Func.isWrapper; first | (rw [if_pos (by decide +kernel)]; kernel_rfl) | (rw [if_neg (by decide +kernel)]; exact ⟨rfl, rfl⟩))
    (fun os started H enc _ => lifted os started H enc)
theorem card : Rows.IneqOrderCardSaid :=
  Claim7.holds_tied_plain_at .later [] [.data, .data, .data] true Rows.ineqOrderCard.stood.harness false
    over (fun _ h => by cases h) (by kernel_rfl) (fun _ h => by cases h) ineqOrder_row_tie rfl ⟨rfl, rfl⟩ (by kernel_rfl) rfl
    (fun f fn hf hfn => by
      obtain rfl : f = 6 := Option.some.inj ((show Tryd.prog.funcNamed "usufruct/usufructlaw03.IneqOrder" = some 6 by kernel_rfl).symm.trans hf) |>.symm
      obtain rfl : fn = Tryd.f6 := (Option.some.inj (Tryd.func6.symm.trans hfn)).symm
      exact ⟨by kernel_rfl, fun j t ht => by
        rw [Tryd.params6] at ht
        have hm : t ∈ [25, 22, 31, 38] := by simpa using Array.mem_of_getElem? ht
        have hall : ([25, 22, 31, 38].all fun u => !Tryd.prog.wantsStandIn u) = true := by kernel_rfl
        exact (show Tryd.prog.wantsStandIn t = false by simpa using List.all_eq_true.1 hall t hm)⟩)
    (by kernel_rfl)
/-- the statement -/
theorem proved : Rows.IneqOrderCardSaid := card
#print axioms proved
end ineqOrder
end Go.Proofs.YtbccnfgceabopaaDoor
