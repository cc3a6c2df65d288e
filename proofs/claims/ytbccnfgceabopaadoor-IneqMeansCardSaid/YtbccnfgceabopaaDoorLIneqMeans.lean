/- IneqMeans holds for every input: what Fits tells holds just if the term, as it is there, fits the bound as it is there. Conditions: the variables that the row lists are laid as the program's text lays them. -/
import Derived.Test.YtbccnfgceabopaaDoorIneqY
import Derived.Test.YtbccnfgceabopaaDoorRowD
namespace Go.Proofs.YtbccnfgceabopaaDoor
set_option linter.unusedVariables false
set_option linter.unusedSimpArgs false
open Go.ChangeShapes Go.WideShapes Go.ChangeAt Go.RowKit

theorem fitsE_at (tv : Value) (t : TermD) (g mv mc : Int) (b : Bool) (h : fitsB t g mv mc = b) (w : World) (B : Nat) (hv : TermV w B tv t) (hB : B ≤ w.heap.size) (hbig : t.vars.length ≤ 1000000000) :
    Calls Tryd.prog 21 #[tv, .int .u8 g, .agg #[.int .i64 mv, .int .u8 mc]] w (RetQE (if b then fitsQ t g mv mc else []) (if b then 0 else 2) w) := by
  rw [← h]; exact fitsQ_any tv t g mv mc w B hv hB hbig


/-- the bound, as the law reckons it: with a cell where it reads one -/
theorem byV_cell {w : World} {B : Nat} {A : Option Addr} {n c : Nat} {asg : List Int} {mv : Int} (ha : RdI .u8 w B A n c asg) (h0 : 0 ≤ mv) (h1 : mv < n) :
    ∃ b off, ∃ k : Nat, A = some ⟨b, off, none⟩ ∧ mv = (k : Int) ∧ k < n ∧ w.cell? ⟨b, off + k, none⟩ = some (.int .u8 (byV asg 0 mv)) := by
  obtain ⟨k, rfl⟩ : ∃ k : Nat, mv = (k : Int) := ⟨mv.toNat, (Int.toNat_of_nonneg h0).symm⟩
  have hla := ha.len
  obtain ⟨b, off, e, hb, hcell⟩ := ha.at_ (by omega)
  refine ⟨b, off, k, e, rfl, by omega, ?_⟩
  have hk' : k < asg.length := by omega
  rw [hcell k hk']
  unfold byV
  rw [if_pos ⟨rfl, by omega, by omega⟩]
  simp [atV, List.getD, hk']


theorem fitsI_at {u m : Int} {b : Bool} (h : fitsI u m = b) (w : World) :
    Calls Tryd.prog 27 #[.int .u8 u, .int .u8 m] w fun e w' => e = .returned (.bool b) ∧ w = w' := by
  rw [← h]; exact fits_any u m w

set_option maxRecDepth 100000 in
set_option maxHeartbeats 2000000 in
theorem walkA_ineqMeans (A : Option Addr) (n cp : Nat) (t : TermD) (g mv mc : Int) (A' : Option Addr) (n' cp' : Nat) (asg : List Int) (w : World) (ht : Tab w) (hr : RdI .i64 w w.heap.size A n cp t.vars) (ha : RdI .u8 w w.heap.size A' n' cp' asg) :
    Calls Tryd.prog 8 #[.agg #[.bool t.never, .int .u8 t.c, .slice A n cp], .int .u8 g, .agg #[.int .i64 mv, .int .u8 mc], .slice A' n' cp'] w fun e w' => e = .returned (.bool true) ∧ Below w.heap.size w w' := by
  have hmx := @run_max2 Tryd.prog
  have Ht := Lib.hid ht
  have Ha := Lib.hid ha
  have hl := hr.len
  have hla := ha.len
  have hn63 : n' ≤ 9223372036854775807 := Nat.le_trans ha.2.1 ha.2.2
  clear ht ha
  by_cases hbig : 5000 < n
  · have hbg : decide ((5000 : Int) < n) = true := by simp; omega
    clear hl
    obtain ⟨hb0, hs0, ht0, hm0⟩ := F0_facts t A n cp mv mc w
    have hr0 := (hr.more (Nat.le_refl _)).below hb0
    have tx : ∀ w', Below (w.heap.size + 2) (F0 t A n cp mv mc w) w' → w'.cell? ⟨w.heap.size, 0, none⟩ = some (.bool t.never) ∧ w'.cell? ⟨w.heap.size, 1, none⟩ = some (.int .u8 t.c) ∧ w'.cell? ⟨w.heap.size, 2, none⟩ = some (.slice A n cp) ∧ w'.cell? ⟨w.heap.size + 1, 0, none⟩ = some (.int .i64 mv) ∧ w'.cell? ⟨w.heap.size + 1, 1, none⟩ = some (.int .u8 mc) := fun w' hb => ⟨(ht0.below hb (by omega)).cell 0, (ht0.below hb (by omega)).cell 1, (ht0.below hb (by omega)).cell 2, (hm0.below hb (by omega)).cell 0, (hm0.below hb (by omega)).cell 1⟩
    have Tx := Lib.hid tx
    obtain ⟨x0, x1, x2, y0, y1⟩ := tx _ (Below.refl _ _)
    clear tx ht0 hm0
    go_enter Tryd.func8, Tryd.ntmps8
    go_wp2_with fail
    refine (worksQ_any (F0 t A n cp mv mc w) (Ht.out.below hb0)).mono ?_; rintro e w8 ⟨rfl, hb8⟩
    go_wp2_with fail
    go_ret
    exact ⟨rfl, hb0.trans (hb8.mono hb0.size)⟩
  · have hbg : decide ((5000 : Int) < n) = false := by simp; omega
    have Hn : Hid (t.vars.length ≤ 1000000000) := by show _ ≤ _; omega
    clear hl hbig
    obtain ⟨b, hA⟩ : ∃ b, fitsB t g mv mc = b := ⟨_, rfl⟩
    have hlaw : b = true → (atR t asg).2 = 0 → (1 ≤ byV asg mc mv ∧ byV asg mc mv ≤ 3) → (holdsAll asg (fitsQ t g mv mc)).2 = 0 ∧ decide ((holdsAll asg (fitsQ t g mv mc)).1 < 0) = fitsI (atR t asg).1 (max g (byV asg mc mv)) := fun hb h1 h2 => means_law (hA.trans hb) h1 h2
    have HA := Lib.hid hA
    have Hlaw := Lib.hid hlaw
    have Hla := Lib.hid hla
    clear hA hlaw hla
    cases b
    · clear Hlaw
      obtain ⟨hb0, hs0, ht0, hm0⟩ := F0_facts t A n cp mv mc w
      have hr0 := (hr.more (Nat.le_refl _)).below hb0
      have tx : ∀ w', Below (w.heap.size + 2) (F0 t A n cp mv mc w) w' → w'.cell? ⟨w.heap.size, 0, none⟩ = some (.bool t.never) ∧ w'.cell? ⟨w.heap.size, 1, none⟩ = some (.int .u8 t.c) ∧ w'.cell? ⟨w.heap.size, 2, none⟩ = some (.slice A n cp) ∧ w'.cell? ⟨w.heap.size + 1, 0, none⟩ = some (.int .i64 mv) ∧ w'.cell? ⟨w.heap.size + 1, 1, none⟩ = some (.int .u8 mc) := fun w' hb => ⟨(ht0.below hb (by omega)).cell 0, (ht0.below hb (by omega)).cell 1, (ht0.below hb (by omega)).cell 2, (hm0.below hb (by omega)).cell 0, (hm0.below hb (by omega)).cell 1⟩
      have Tx := Lib.hid tx
      obtain ⟨x0, x1, x2, y0, y1⟩ := tx _ (Below.refl _ _)
      clear tx ht0 hm0
      go_enter Tryd.func8, Tryd.ntmps8
      go_wp2_with fail
      refine (fitsE_at (.agg #[.bool t.never, .int .u8 t.c, .slice A n cp]) t g mv mc false HA.out (F0 t A n cp mv mc w) w.heap.size ⟨A, n, cp, rfl, hr0⟩ (by omega) Hn.out).mono ?_
      rintro e w1 ⟨A1, n1, c1, rfl, hx1, hb1⟩
      clear x0 x1 x2 y0 y1
      generalize hF : F0 t A n cp mv mc w = w0 at hb0 hs0 hr0 Tx hb1 ⊢
      clear hF
      have hk1 := hb1.mono (show w.heap.size + 2 ≤ w0.heap.size by omega)
      have hw1 := hb0.trans (hb1.mono (by omega))
      have hr1 := hr0.below (hk1.mono (by omega))
      have hz1 : w.heap.size + 2 ≤ w1.heap.size := by have := hb1.size; omega
      obtain ⟨x0, x1, x2, y0, y1⟩ := Tx.out _ hk1
      clear hb1
      have Hx1 := Lib.hid hx1
      clear hx1
      go_wp2_with fail
      refine (at_any (.agg #[.bool t.never, .int .u8 t.c, .slice A n cp]) t A' n' cp' asg w1 w.heap.size w1.heap.size ⟨A, n, cp, rfl, hr1⟩ (by omega) ((Ha.out.below hw1).more hw1.size) (Nat.le_refl _)).mono ?_
      rintro e w2 ⟨rfl, hb2⟩
      have hw2 := hw1.trans (hb2.mono hw1.size)
      have hk2 := hk1.trans (hb2.mono hz1)
      have Hx2 := Lib.hid ((Hx1.out.below hb2).more hb2.size)
      clear x0 x1 x2 y0 y1 hb2 Hx1
      obtain ⟨x0, x1, x2, y0, y1⟩ := Tx.out _ hk2
      generalize (atR t asg).1 = u
      generalize (atR t asg).2 = f
      by_cases hz : mc = 0
      · subst hz
        by_cases h0 : 0 ≤ mv
        · by_cases h1 : mv < n'
          · obtain ⟨b', off', k, rfl, rfl, hk, hcell⟩ := byV_cell (Ha.out.below hw2) h0 h1
            generalize byV asg 0 (k : Int) = BV at hcell
            have i1 : (0 : Int) ≤ (k : Int) := by omega
            clear h0
            go_wp2_with fail
            refine (worksQ_any w2 (Ht.out.below hw2)).mono ?_; rintro e w8 ⟨rfl, hb8⟩
            go_wp2_with fail
            go_ret
            exact ⟨rfl, hw2.trans (hb8.mono hw2.size)⟩
          · go_wp2_with fail
            refine (worksQ_any w2 (Ht.out.below hw2)).mono ?_; rintro e w8 ⟨rfl, hb8⟩
            go_wp2_with fail
            go_ret
            exact ⟨rfl, hw2.trans (hb8.mono hw2.size)⟩
        · go_wp2_with fail
          refine (worksQ_any w2 (Ht.out.below hw2)).mono ?_; rintro e w8 ⟨rfl, hb8⟩
          go_wp2_with fail
          go_ret
          exact ⟨rfl, hw2.trans (hb8.mono hw2.size)⟩
      · have hz' : (mc == 0) = false := by simp [hz]
        clear hz
        go_wp2_with fail
        refine (worksQ_any w2 (Ht.out.below hw2)).mono ?_; rintro e w8 ⟨rfl, hb8⟩
        go_wp2_with fail
        go_ret
        exact ⟨rfl, hw2.trans (hb8.mono hw2.size)⟩
    · skip
      obtain ⟨hb0, hs0, ht0, hm0⟩ := F0_facts t A n cp mv mc w
      have hr0 := (hr.more (Nat.le_refl _)).below hb0
      have tx : ∀ w', Below (w.heap.size + 2) (F0 t A n cp mv mc w) w' → w'.cell? ⟨w.heap.size, 0, none⟩ = some (.bool t.never) ∧ w'.cell? ⟨w.heap.size, 1, none⟩ = some (.int .u8 t.c) ∧ w'.cell? ⟨w.heap.size, 2, none⟩ = some (.slice A n cp) ∧ w'.cell? ⟨w.heap.size + 1, 0, none⟩ = some (.int .i64 mv) ∧ w'.cell? ⟨w.heap.size + 1, 1, none⟩ = some (.int .u8 mc) := fun w' hb => ⟨(ht0.below hb (by omega)).cell 0, (ht0.below hb (by omega)).cell 1, (ht0.below hb (by omega)).cell 2, (hm0.below hb (by omega)).cell 0, (hm0.below hb (by omega)).cell 1⟩
      have Tx := Lib.hid tx
      obtain ⟨x0, x1, x2, y0, y1⟩ := tx _ (Below.refl _ _)
      clear tx ht0 hm0
      go_enter Tryd.func8, Tryd.ntmps8
      go_wp2_with fail
      refine (fitsE_at (.agg #[.bool t.never, .int .u8 t.c, .slice A n cp]) t g mv mc true HA.out (F0 t A n cp mv mc w) w.heap.size ⟨A, n, cp, rfl, hr0⟩ (by omega) Hn.out).mono ?_
      rintro e w1 ⟨A1, n1, c1, rfl, hx1, hb1⟩
      clear x0 x1 x2 y0 y1
      generalize hF : F0 t A n cp mv mc w = w0 at hb0 hs0 hr0 Tx hb1 ⊢
      clear hF
      have hk1 := hb1.mono (show w.heap.size + 2 ≤ w0.heap.size by omega)
      have hw1 := hb0.trans (hb1.mono (by omega))
      have hr1 := hr0.below (hk1.mono (by omega))
      have hz1 : w.heap.size + 2 ≤ w1.heap.size := by have := hb1.size; omega
      obtain ⟨x0, x1, x2, y0, y1⟩ := Tx.out _ hk1
      clear hb1
      have Hx1 := Lib.hid hx1
      clear hx1
      go_wp2_with fail
      refine (at_any (.agg #[.bool t.never, .int .u8 t.c, .slice A n cp]) t A' n' cp' asg w1 w.heap.size w1.heap.size ⟨A, n, cp, rfl, hr1⟩ (by omega) ((Ha.out.below hw1).more hw1.size) (Nat.le_refl _)).mono ?_
      rintro e w2 ⟨rfl, hb2⟩
      have hw2 := hw1.trans (hb2.mono hw1.size)
      have hk2 := hk1.trans (hb2.mono hz1)
      have Hx2 := Lib.hid ((Hx1.out.below hb2).more hb2.size)
      clear x0 x1 x2 y0 y1 hb2 Hx1
      obtain ⟨x0, x1, x2, y0, y1⟩ := Tx.out _ hk2
      generalize (atR t asg).1 = u at Hlaw ⊢
      generalize (atR t asg).2 = f at Hlaw ⊢
      by_cases hz : mc = 0
      · subst hz
        by_cases h0 : 0 ≤ mv
        · by_cases h1 : mv < n'
          · obtain ⟨b', off', k, rfl, rfl, hk, hcell⟩ := byV_cell (Ha.out.below hw2) h0 h1
            generalize byV asg 0 (k : Int) = BV at Hlaw hcell
            have i1 : (0 : Int) ≤ (k : Int) := by omega
            clear h0
            try simp only [if_true] at Hx2
            by_cases hf : f = 0
            · subst hf
              have hlaw0 := Hlaw.out (by trivial) rfl
              clear Hlaw
              by_cases hb1 : BV < 1
              · clear hlaw0
                go_wp2_with fail
                refine (worksQ_any w2 (Ht.out.below hw2)).mono ?_; rintro e w8 ⟨rfl, hb8⟩
                go_wp2_with fail
                go_ret
                exact ⟨rfl, hw2.trans (hb8.mono hw2.size)⟩
              · by_cases hb3 : 3 < BV
                · clear hlaw0
                  go_wp2_with fail
                  refine (worksQ_any w2 (Ht.out.below hw2)).mono ?_; rintro e w8 ⟨rfl, hb8⟩
                  go_wp2_with fail
                  go_ret
                  exact ⟨rfl, hw2.trans (hb8.mono hw2.size)⟩
                · obtain ⟨l1, l2⟩ := hlaw0 (by omega)
                  have L1 := Lib.hid l1
                  have L2 := Lib.hid l2
                  clear hlaw0 l1 l2
                  go_wp2_with fail
                  refine (holds_any A1 n1 c1 _ _ n' cp' asg w2 Hx2.out ((Ha.out.below hw2).more hw2.size)).mono ?_; rintro e w3 ⟨rfl, hb3⟩
                  have hw3 := hw2.trans (hb3.mono hw2.size)
                  rw [L1.out]
                  generalize (holdsAll asg (fitsQ t g (k : Int) 0)).1 = q1 at L2 ⊢
                  clear L1
                  obtain ⟨fb, hfb⟩ : ∃ fb, fitsI u (max g BV) = fb := ⟨_, rfl⟩
                  have hd : decide (q1 < 0) = fb := by rw [L2.out, hfb]
                  have Hfb := Lib.hid hfb
                  clear hfb L2
                  go_wp2_with fail
                  refine (fitsI_at Hfb.out _).mono ?_; rintro e w4 ⟨rfl, rfl⟩
                  go_wp2_with fail
                  refine (worksQ_any w3 (Ht.out.below hw3)).mono ?_; rintro e w8 ⟨rfl, hb8⟩
                  go_wp2_with fail
                  go_ret
                  exact ⟨rfl, hw3.trans (hb8.mono hw3.size)⟩
            · have hf' : (f != 0) = true := by simp [hf]
              clear Hlaw hf
              go_wp2_with fail
              refine (worksQ_any w2 (Ht.out.below hw2)).mono ?_; rintro e w8 ⟨rfl, hb8⟩
              go_wp2_with fail
              go_ret
              exact ⟨rfl, hw2.trans (hb8.mono hw2.size)⟩
          · clear Hlaw
            by_cases hf : f = 0
            · subst hf
              go_wp2_with fail
              refine (worksQ_any w2 (Ht.out.below hw2)).mono ?_; rintro e w8 ⟨rfl, hb8⟩
              go_wp2_with fail
              go_ret
              exact ⟨rfl, hw2.trans (hb8.mono hw2.size)⟩
            · have hf' : (f != 0) = true := by simp [hf]
              clear hf
              go_wp2_with fail
              refine (worksQ_any w2 (Ht.out.below hw2)).mono ?_; rintro e w8 ⟨rfl, hb8⟩
              go_wp2_with fail
              go_ret
              exact ⟨rfl, hw2.trans (hb8.mono hw2.size)⟩
        · clear Hlaw
          by_cases hf : f = 0
          · subst hf
            go_wp2_with fail
            refine (worksQ_any w2 (Ht.out.below hw2)).mono ?_; rintro e w8 ⟨rfl, hb8⟩
            go_wp2_with fail
            go_ret
            exact ⟨rfl, hw2.trans (hb8.mono hw2.size)⟩
          · have hf' : (f != 0) = true := by simp [hf]
            clear hf
            go_wp2_with fail
            refine (worksQ_any w2 (Ht.out.below hw2)).mono ?_; rintro e w8 ⟨rfl, hb8⟩
            go_wp2_with fail
            go_ret
            exact ⟨rfl, hw2.trans (hb8.mono hw2.size)⟩
      · have hbv : byV asg mc mv = mc := by unfold byV; rw [if_neg (by intro h; exact hz h.1)]
        have hz' : (mc == 0) = false := by simp [hz]
        rw [hbv] at Hlaw
        clear hbv hz
        try simp only [if_true] at Hx2
        by_cases hf : f = 0
        · subst hf
          have hlaw0 := Hlaw.out (by trivial) rfl
          clear Hlaw
          by_cases hb1 : mc < 1
          · clear hlaw0
            go_wp2_with fail
            refine (worksQ_any w2 (Ht.out.below hw2)).mono ?_; rintro e w8 ⟨rfl, hb8⟩
            go_wp2_with fail
            go_ret
            exact ⟨rfl, hw2.trans (hb8.mono hw2.size)⟩
          · by_cases hb3 : 3 < mc
            · clear hlaw0
              go_wp2_with fail
              refine (worksQ_any w2 (Ht.out.below hw2)).mono ?_; rintro e w8 ⟨rfl, hb8⟩
              go_wp2_with fail
              go_ret
              exact ⟨rfl, hw2.trans (hb8.mono hw2.size)⟩
            · obtain ⟨l1, l2⟩ := hlaw0 (by omega)
              have L1 := Lib.hid l1
              have L2 := Lib.hid l2
              clear hlaw0 l1 l2
              go_wp2_with fail
              refine (holds_any A1 n1 c1 _ _ n' cp' asg w2 Hx2.out ((Ha.out.below hw2).more hw2.size)).mono ?_; rintro e w3 ⟨rfl, hb3⟩
              have hw3 := hw2.trans (hb3.mono hw2.size)
              rw [L1.out]
              generalize (holdsAll asg (fitsQ t g mv mc)).1 = q1 at L2 ⊢
              clear L1
              obtain ⟨fb, hfb⟩ : ∃ fb, fitsI u (max g mc) = fb := ⟨_, rfl⟩
              have hd : decide (q1 < 0) = fb := by rw [L2.out, hfb]
              have Hfb := Lib.hid hfb
              clear hfb L2
              go_wp2_with fail
              refine (fitsI_at Hfb.out _).mono ?_; rintro e w4 ⟨rfl, rfl⟩
              go_wp2_with fail
              refine (worksQ_any w3 (Ht.out.below hw3)).mono ?_; rintro e w8 ⟨rfl, hb8⟩
              go_wp2_with fail
              go_ret
              exact ⟨rfl, hw3.trans (hb8.mono hw3.size)⟩
        · have hf' : (f != 0) = true := by simp [hf]
          clear Hlaw hf
          go_wp2_with fail
          refine (worksQ_any w2 (Ht.out.below hw2)).mono ?_; rintro e w8 ⟨rfl, hb8⟩
          go_wp2_with fail
          go_ret
          exact ⟨rfl, hw2.trans (hb8.mono hw2.size)⟩

theorem walk_ineqMeans (w : World) (ht : Tab w) (v1 : Value) (h1 : TermIn w v1) (g : Int) (hg : 0 ≤ g ∧ g ≤ 255) (v3 : Value) (h3 : MuIn v3) (v4 : Value) (h4 : MultsIn w v4) :
    Calls Tryd.prog 8 #[v1, .int .u8 g, v3, v4] w fun e w' => e = .returned (.bool true) ∧ Below w.heap.size w w' := by
  obtain ⟨t, ⟨A, n, c, rfl, hr⟩, _⟩ := h1
  obtain ⟨V, C, rfl, _⟩ := h3
  obtain ⟨A', n', c', asg, rfl, ha, _⟩ := h4
  exact walkA_ineqMeans A n c t g V C A' n' c' asg w ht hr ha

/-! ### the row's step -/
namespace ineqMeans
set_option maxRecDepth 100000 in
theorem lifted (os : Os) (started : os.Started) (H : Type) (enc : TypeId × Value → H) :
    ReturnsInHanded {} Tryd.checked os 8 .any (fun w args => (Rows.ineqMeansSpec.pre enc Tryd.prog Tryd.f8 [] false w args ∧ laidMetH Tryd.prog laid3 w) ∧ sizedMet enc Tryd.prog Tryd.f8 (OpenSpec.ofChange Rows.ineqMeansSpec) false w args) (Rows.ineqMeansSpec.post enc Tryd.prog Tryd.f8 false true false false) := by
  refine returnsInHanded_of_change_and (C := Tryd.checked) (X := fun w _ => laidMetH Tryd.prog laid3 w) (fun _ _ _ hh h => h.of_heap hh) own started (by kernel_rfl) Tryd.func8
    (ChangeSpec.witness_shaped (enc := enc) (C := Tryd.checked) (os := os) (X := fun w _ => laidMetH Tryd.prog laid3 w) false (World.doorLaid Tryd.prog 400 os) #[.agg #[.bool false, .int .u8 0, .slice none 0 0], .int .u8 0, .agg #[.int .i64 0, .int .u8 0], .slice none 0 0] 8 rfl (World.shaped_of_RefB (by kernel_rfl) (by kernel_rfl)) (by kernel_rfl) (by kernel_rfl) (by kernel_rfl) (door_met os _)) ?_
  intro W base args ds gs before hval0 hW hcnd hsz0 hL _
  have hsz : (DataW.weightsEach Tryd.prog (Tryd.f8.params.toList ++ Rows.ineqMeansSpec.plain.varTypes Tryd.prog) (ds ++ gs)).all (· ≤ reachBytes) = true := hsz0
  have hval : ∀ (j : Nat) t v, Tryd.f8.params[j]? = some t → args[j]? = some v → Value.okWide Tryd.prog W .any base t v := hval0
  have hW' := hW
  obtain ⟨p, q, hA0, hV, rfl, hfz, hnd⟩ := hW
  have hA : DataW.TrodAll enc Tryd.prog W 0 (fun _ => true) true Tryd.f8.params.toList args.toList ds p := hA0
  rw [Tryd.params8] at hA hval hsz
  obtain ⟨v0, vs0, d0, ds0, p0, q0, hargs, rfl, rfl, h0, r_0⟩ := trodAll_cons hA
  obtain ⟨v1, vs1, d1, ds1, p1, q1, rfl, rfl, rfl, h1, r_1⟩ := trodAll_cons r_0
  obtain ⟨v2, vs2, d2, ds2, p2, q2, rfl, rfl, rfl, h2, r_2⟩ := trodAll_cons r_1
  obtain ⟨v3, vs3, d3, ds3, p3, q3, rfl, rfl, rfl, h3, r_3⟩ := trodAll_cons r_2
  obtain ⟨rfl, rfl, rfl⟩ := trodAll_nil r_3
  obtain rfl : args = #[v0, v1, v2, v3] := by cases args; simp_all
  obtain ⟨rfl, rfl⟩ := trodVars_none hV
  have w0 := rd_term (hval 0 25 v0 rfl rfl) h0
  obtain ⟨a1, rfl, _, _, w1⟩ := open_int Tryd.underlying22 (hval 1 22 v1 rfl rfl) h1
  have b1 := bounds_u8 w1
  have w2 := rd_mu (hval 2 31 v2 rfl rfl) h2
  have w3 := rd_mults (hval 3 38 v3 rfl rfl) h3
  refine (walk_ineqMeans (w := W) (tab_of_laid hL) v0 w0 a1 b1 v2 w2 v3 w3).mono fun e W' ⟨he, bel⟩ => ?_
  subst he
  exact ⟨_, rfl, law_post laidOut (by kernel_rfl) rfl rfl Tryd.underlying4 hW' rfl rfl rfl bel⟩
theorem over : Rows.ineqMeansRow.holds Tryd.pinned (OpenSpec.ofChange Rows.ineqMeansSpec) :=
  OpenClaim.holds_of_wide 8 Tryd.f8 rfl rfl rfl rfl rfl rfl rfl ⟨rfl, rfl, rfl, rfl, rfl⟩ rfl rfl rfl rfl rfl (by kernel_rfl) Tryd.func8 (by kernel_rfl)
    (of_decide_eq_true (by kernel_rfl)) (by unfold Func.isWrapper; first | (rw [if_pos (by decide +kernel)]; kernel_rfl) | (rw [if_neg (by decide +kernel)]; exact ⟨rfl, rfl⟩))
    (fun os started H enc _ => lifted os started H enc)
theorem card : Rows.IneqMeansCardSaid :=
  Claim7.holds_tied_plain_at .later [] [.data, .data, .data] true Rows.ineqMeansCard.stood.harness false
    over (fun _ h => by cases h) (by kernel_rfl) (fun _ h => by cases h) ineqMeans_row_tie rfl ⟨rfl, rfl⟩ (by kernel_rfl) rfl
    (fun f fn hf hfn => by
      obtain rfl : f = 8 := Option.some.inj ((show Tryd.prog.funcNamed "usufruct/usufructlaw03.IneqMeans" = some 8 by kernel_rfl).symm.trans hf) |>.symm
      obtain rfl : fn = Tryd.f8 := (Option.some.inj (Tryd.func8.symm.trans hfn)).symm
      exact ⟨by kernel_rfl, fun j t ht => by
        rw [Tryd.params8] at ht
        have hm : t ∈ [25, 22, 31, 38] := by simpa using Array.mem_of_getElem? ht
        have hall : ([25, 22, 31, 38].all fun u => !Tryd.prog.wantsStandIn u) = true := by kernel_rfl
        exact (show Tryd.prog.wantsStandIn t = false by simpa using List.all_eq_true.1 hall t hm)⟩)
    (by kernel_rfl)
/-- the statement -/
theorem proved : Rows.IneqMeansCardSaid := card
#print axioms proved
end ineqMeans
end Go.Proofs.YtbccnfgceabopaaDoor
