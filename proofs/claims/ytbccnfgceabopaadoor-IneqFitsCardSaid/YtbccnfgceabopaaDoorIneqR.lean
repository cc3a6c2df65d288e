/- The contract of usufructref03.Fits. -/
import Derived.Test.YtbccnfgceabopaaDoorIneqQ
import Derived.Test.YtbccnfgceabopaaDoorPlA
namespace Go.Proofs.YtbccnfgceabopaaDoor
set_option linter.unusedVariables false
set_option linter.unusedSimpArgs false
open Go.RowKit

def outX (c r top : Int) (l : List Int) : List IneqD := putQ c r 0 top ++ putsV c r l
theorem outX_len (c r top : Int) (l : List Int) : (outX c r top l).length ≤ l.length + 1 := by
  have h1 := putQ_len c r 0 top
  have h2 := putsV_len c r l
  unfold outX
  rw [List.length_append]
  omega

/-- the loop of ref Fits: what has been laid -/
def OutW (w0 : World) (B : Nat) (xs : List IneqD) (v : Value) (wr : World) : Prop :=
  ∃ A cap, v = .slice A xs.length cap ∧ wr.ownsRow B 36 4 (.slice A xs.length cap) xs.length (icellsL xs) ∧ Below B w0 wr ∧ B ≤ wr.heap.size


set_option maxRecDepth 100000 in
set_option maxHeartbeats 4000000 in
theorem refFits_some (v : Value) (tc : Int) (tv : List Int) (g mv mc : Int) (w : World) (B : Nat) (hv : TermV w B v ⟨false, tc, tv⟩) (hB : B ≤ w.heap.size) (h1 : 1 ≤ tc) (hg1 : 1 ≤ g) (hg2 : g ≤ 3) (hmc : 0 ≤ mc ∧ mc ≤ 3) (hbig : tv.length ≤ 1000000000) :
    Calls Tryd.prog 25 #[v, .int .u8 g, .agg #[.int .i64 mv, .int .u8 mc]] w fun e w' => ∃ A n c, e = .returned (.slice A n c) ∧ IneqsV w' w'.heap.size A n c (fitsQ ⟨false, tc, tv⟩ g mv mc) ∧ Below w.heap.size w w' := by
  obtain ⟨i0, hi0, hz0, hz1, hz2⟩ := info_parts ineqInfo
  obtain ⟨A, n, cp, rfl, hr⟩ := hv
  have hl : tv.length = n := hr.len
  obtain ⟨hb0, hs0, ht0, hm0⟩ := F0_facts ⟨false, tc, tv⟩ A n cp mv mc w
  have hr0 := (hr.more hB).below hb0
  clear hr
  by_cases h0 : mc = 0
  · subst h0
    have Hfit : Hid (fitsQ ⟨false, tc, tv⟩ g mv 0 = outX g mv tc tv) := by show _ = _; unfold fitsQ fitsL outX; rw [show max g 0 = g by omega]; rfl
    go_enter Tryd.func25, Tryd.ntmps25
    by_cases htop : g < tc
    · skip
      have hp : putQ g mv 0 tc = [⟨0, tc, g, mv⟩] := by simp [putQ, putsQ, htop, show ¬ (tc = 0) by omega]
      have Hp := Lib.hid hp
      clear hp
      go_wp2_with (at_builtin; refine wpList_append_one (F0 ⟨false, tc, tv⟩ A n cp mv 0 w) (F0 ⟨false, tc, tv⟩ A n cp mv 0 w) rfl (.tmp 31) (.tmp 37) 37 rfl (F0 ⟨false, tc, tv⟩ A n cp mv 0 w).heap.size 36 i0 _ 4 32 Tryd.underlying37 hi0 hz0 hz1 hz2 rfl (by omega) (.slice none 0 0) 0 [] rfl (icells ⟨0, tc, g, mv⟩) rfl (by intro u hu; simp [icells] at hu; rcases hu with rfl | rfl | rfl | rfl <;> rfl) (by rw [hs0]; rfl) (World.ownsRow_nil _ _ _ _) (by unfold maxLen; omega) (by omega) (Below.refl _ _) (Nat.le_refl _) ?_; intro A5 c5 w5 ho5 hb5 hg5 hz5; clear hg5)
      generalize F0 ⟨false, tc, tv⟩ A n cp mv 0 w = w0 at hb0 hs0 ht0 hm0 hr0 ho5 hb5 hz5 ⊢
      have HOUT : OutW w0 w0.heap.size (outX g mv tc ((tv : List Int).take 0)) (.slice A5 1 c5) w5 := ⟨A5, c5, by rw [List.take_zero]; unfold outX; rw [Hp.out]; rfl, by rw [List.take_zero]; unfold outX; rw [Hp.out]; exact ho5, hb5, hz5⟩
      clear ho5 hb5 hz5 Hp
      have Hl := Lib.hid hl
      have hn63 : n ≤ 1000000000 := by rw [← hl]; exact hbig
      clear hl hbig
      go_loopg [10, 11] n (fun gh out i wr => ∃ k : Nat, k ≤ n ∧ gh = n - k ∧ i = .int .i64 k ∧ OutW w0 w0.heap.size (outX g mv tc (tv.take k)) out wr)
      case atStart => exact ⟨0, Nat.zero_le _, rfl, rfl, HOUT⟩
      case round =>
        obtain ⟨k, hk, rfl, rfl, A8, c8, rfl, ho8, hb8, hz8⟩ := hrel
        have x2 : wr.cell? ⟨w.heap.size, 2, none⟩ = some (.slice A n cp) := (ht0.below hb8 (by omega)).cell 2
        by_cases hlk : k < n
        · have hk' : k < tv.length := by rw [Hl.out]; exact hlk
          obtain ⟨b, off, rfl, hb, hcell⟩ := (hr0.below (hb8.mono (by omega))).at_ (by omega)
          have q0 := hcell k hk'
          have htk : tv.take (k + 1) = tv.take k ++ [tv[k]] := by rw [List.take_succ_eq_append_getElem hk']
          have hlen : (outX g mv tc (tv.take k)).length ≤ 1000000001 := by
            have h1 := outX_len g mv tc (tv.take k)
            have h3 : (tv.take k).length ≤ k := List.length_take_le _ _
            omega
          generalize tv[k] = V at q0 htk
          have hstep : outX g mv tc (tv.take (k + 1)) = outX g mv tc (tv.take k) ++ putQ g mv V 0 := by unfold outX; rw [htk, putsV_snoc, List.append_assoc]
          generalize outX g mv tc (tv.take k) = xs at ho8 hlen hstep ⊢
          clear htk hcell
          by_cases hc3 : g < 3
          · have e3 : ¬ (g = 3) := by omega
            by_cases hvr : V = mv
            · have Hst : Hid (outX g mv tc (tv.take (k + 1)) = xs) := by show _ = _; rw [hstep]; simp [putQ, putsQ, hvr]
              have d1 : (V != mv) = false := by simp [hvr]
              clear hstep hvr e3
              go_wp2_with fail
              go_roundg (n - (k + 1))
              case measure => omega
              case rel => exact ⟨k + 1, by omega, rfl, by go_num, by rw [Hst.out]; exact ⟨A8, c8, rfl, ho8, hb8, hz8⟩⟩
            · have Hst : Hid (outX g mv tc (tv.take (k + 1)) = xs ++ [⟨V, 0, g, mv⟩]) := by show _ = _; rw [hstep]; simp [putQ, putsQ, hvr, e3]
              have d1 : (V != mv) = true := by simp [hvr]
              clear hstep hvr e3
              go_wp2_with (at_builtin; refine wpList_append_one w0 wr rfl (.tmp 57) (.tmp 67) 37 rfl w0.heap.size 36 i0 _ 4 32 Tryd.underlying37 hi0 hz0 hz1 hz2 rfl (by omega) (.slice A8 xs.length c8) xs.length (icellsL xs) rfl (icells ⟨V, 0, g, mv⟩) rfl (by intro u hu; simp [icells] at hu; rcases hu with rfl | rfl | rfl | rfl <;> rfl) rfl ho8 (by unfold maxLen; omega) (by omega) hb8 hz8 ?_; intro A9 c9 w9 ho9 hb9 hg9 hz9; clear hg9)
              go_roundg (n - (k + 1))
              case measure => omega
              case rel => exact ⟨k + 1, by omega, rfl, by go_num, by rw [Hst.out]; exact ⟨A9, c9, by first | rfl | simp, by rw [icellsL_append, icellsL_one, List.length_append]; exact ho9, hb9, by omega⟩⟩
          · have Hst : Hid (outX g mv tc (tv.take (k + 1)) = xs) := by show _ = _; rw [hstep]; simp [putQ, putsQ, show g = 3 by omega]
            clear hstep
            go_wp2_with fail
            go_roundg (n - (k + 1))
            case measure => omega
            case rel => exact ⟨k + 1, by omega, rfl, by go_num, by rw [Hst.out]; exact ⟨A8, c8, rfl, ho8, hb8, hz8⟩⟩
        · have hkn : k = n := by omega
          subst hkn
          have HF : Hid (outX g mv tc (tv.take k) = fitsQ ⟨false, tc, tv⟩ g mv 0) := by show _ = _; rw [Hfit.out, List.take_of_length_le (by rw [Hl.out]; exact Nat.le_refl _)]
          clear Hfit
          go_wp2_with fail
          go_ret
          exact ⟨A8, _, c8, rfl, by rw [← HF.out]; exact IneqsV.of_own ho8, hb0.trans (hb8.mono (by omega))⟩
    · skip
      have hp : putQ g mv 0 tc = [] := by simp [putQ, putsQ, htop, show ¬ (tc = 0) by omega]
      have HOUT : OutW (F0 ⟨false, tc, tv⟩ A n cp mv 0 w) (F0 ⟨false, tc, tv⟩ A n cp mv 0 w).heap.size (outX g mv tc ((tv : List Int).take 0)) (.slice none 0 0) (F0 ⟨false, tc, tv⟩ A n cp mv 0 w) := ⟨none, 0, by rw [List.take_zero]; unfold outX; rw [hp]; rfl, by rw [List.take_zero]; unfold outX; rw [hp]; exact World.ownsRow_nil _ _ _ _, Below.refl _ _, Nat.le_refl _⟩
      clear hp
      go_wp2_with fail
      show Code.wp _ _ _ _ (F0 ⟨false, tc, tv⟩ A n cp mv 0 w)
      generalize F0 ⟨false, tc, tv⟩ A n cp mv 0 w = w0 at hb0 hs0 ht0 hm0 hr0 HOUT ⊢
      have Hl := Lib.hid hl
      have hn63 : n ≤ 1000000000 := by rw [← hl]; exact hbig
      clear hl hbig
      go_loopg [10, 11] n (fun gh out i wr => ∃ k : Nat, k ≤ n ∧ gh = n - k ∧ i = .int .i64 k ∧ OutW w0 w0.heap.size (outX g mv tc (tv.take k)) out wr)
      case atStart => exact ⟨0, Nat.zero_le _, rfl, rfl, HOUT⟩
      case round =>
        obtain ⟨k, hk, rfl, rfl, A8, c8, rfl, ho8, hb8, hz8⟩ := hrel
        have x2 : wr.cell? ⟨w.heap.size, 2, none⟩ = some (.slice A n cp) := (ht0.below hb8 (by omega)).cell 2
        by_cases hlk : k < n
        · have hk' : k < tv.length := by rw [Hl.out]; exact hlk
          obtain ⟨b, off, rfl, hb, hcell⟩ := (hr0.below (hb8.mono (by omega))).at_ (by omega)
          have q0 := hcell k hk'
          have htk : tv.take (k + 1) = tv.take k ++ [tv[k]] := by rw [List.take_succ_eq_append_getElem hk']
          have hlen : (outX g mv tc (tv.take k)).length ≤ 1000000001 := by
            have h1 := outX_len g mv tc (tv.take k)
            have h3 : (tv.take k).length ≤ k := List.length_take_le _ _
            omega
          generalize tv[k] = V at q0 htk
          have hstep : outX g mv tc (tv.take (k + 1)) = outX g mv tc (tv.take k) ++ putQ g mv V 0 := by unfold outX; rw [htk, putsV_snoc, List.append_assoc]
          generalize outX g mv tc (tv.take k) = xs at ho8 hlen hstep ⊢
          clear htk hcell
          by_cases hc3 : g < 3
          · have e3 : ¬ (g = 3) := by omega
            by_cases hvr : V = mv
            · have Hst : Hid (outX g mv tc (tv.take (k + 1)) = xs) := by show _ = _; rw [hstep]; simp [putQ, putsQ, hvr]
              have d1 : (V != mv) = false := by simp [hvr]
              clear hstep hvr e3
              go_wp2_with fail
              go_roundg (n - (k + 1))
              case measure => omega
              case rel => exact ⟨k + 1, by omega, rfl, by go_num, by rw [Hst.out]; exact ⟨A8, c8, rfl, ho8, hb8, hz8⟩⟩
            · have Hst : Hid (outX g mv tc (tv.take (k + 1)) = xs ++ [⟨V, 0, g, mv⟩]) := by show _ = _; rw [hstep]; simp [putQ, putsQ, hvr, e3]
              have d1 : (V != mv) = true := by simp [hvr]
              clear hstep hvr e3
              go_wp2_with (at_builtin; refine wpList_append_one w0 wr rfl (.tmp 57) (.tmp 67) 37 rfl w0.heap.size 36 i0 _ 4 32 Tryd.underlying37 hi0 hz0 hz1 hz2 rfl (by omega) (.slice A8 xs.length c8) xs.length (icellsL xs) rfl (icells ⟨V, 0, g, mv⟩) rfl (by intro u hu; simp [icells] at hu; rcases hu with rfl | rfl | rfl | rfl <;> rfl) rfl ho8 (by unfold maxLen; omega) (by omega) hb8 hz8 ?_; intro A9 c9 w9 ho9 hb9 hg9 hz9; clear hg9)
              go_roundg (n - (k + 1))
              case measure => omega
              case rel => exact ⟨k + 1, by omega, rfl, by go_num, by rw [Hst.out]; exact ⟨A9, c9, by first | rfl | simp, by rw [icellsL_append, icellsL_one, List.length_append]; exact ho9, hb9, by omega⟩⟩
          · have Hst : Hid (outX g mv tc (tv.take (k + 1)) = xs) := by show _ = _; rw [hstep]; simp [putQ, putsQ, show g = 3 by omega]
            clear hstep
            go_wp2_with fail
            go_roundg (n - (k + 1))
            case measure => omega
            case rel => exact ⟨k + 1, by omega, rfl, by go_num, by rw [Hst.out]; exact ⟨A8, c8, rfl, ho8, hb8, hz8⟩⟩
        · have hkn : k = n := by omega
          subst hkn
          have HF : Hid (outX g mv tc (tv.take k) = fitsQ ⟨false, tc, tv⟩ g mv 0) := by show _ = _; rw [Hfit.out, List.take_of_length_le (by rw [Hl.out]; exact Nat.le_refl _)]
          clear Hfit
          go_wp2_with fail
          go_ret
          exact ⟨A8, _, c8, rfl, by rw [← HF.out]; exact IneqsV.of_own ho8, hb0.trans (hb8.mono (by omega))⟩
  · have hz : (mc == 0) = false := by simp [h0]
    by_cases hgm : g < mc
    · have Hfit : Hid (fitsQ ⟨false, tc, tv⟩ g mv mc = outX mc (-1) tc tv) := by show _ = _; unfold fitsQ fitsL outX; rw [show max g mc = mc by omega, if_neg h0]; rfl
      clear h0
      go_enter Tryd.func25, Tryd.ntmps25
      by_cases htop : mc < tc
      · skip
        have hp : putQ mc (-1) 0 tc = [⟨0, tc, mc, (-1)⟩] := by simp [putQ, putsQ, htop, show ¬ (tc = 0) by omega]
        have Hp := Lib.hid hp
        clear hp
        go_wp2_with (at_builtin; refine wpList_append_one (F0 ⟨false, tc, tv⟩ A n cp mv mc w) (F0 ⟨false, tc, tv⟩ A n cp mv mc w) rfl (.tmp 31) (.tmp 37) 37 rfl (F0 ⟨false, tc, tv⟩ A n cp mv mc w).heap.size 36 i0 _ 4 32 Tryd.underlying37 hi0 hz0 hz1 hz2 rfl (by omega) (.slice none 0 0) 0 [] rfl (icells ⟨0, tc, mc, (-1)⟩) rfl (by intro u hu; simp [icells] at hu; rcases hu with rfl | rfl | rfl | rfl <;> rfl) (by rw [hs0]; rfl) (World.ownsRow_nil _ _ _ _) (by unfold maxLen; omega) (by omega) (Below.refl _ _) (Nat.le_refl _) ?_; intro A5 c5 w5 ho5 hb5 hg5 hz5; clear hg5)
        generalize F0 ⟨false, tc, tv⟩ A n cp mv mc w = w0 at hb0 hs0 ht0 hm0 hr0 ho5 hb5 hz5 ⊢
        have HOUT : OutW w0 w0.heap.size (outX mc (-1) tc ((tv : List Int).take 0)) (.slice A5 1 c5) w5 := ⟨A5, c5, by rw [List.take_zero]; unfold outX; rw [Hp.out]; rfl, by rw [List.take_zero]; unfold outX; rw [Hp.out]; exact ho5, hb5, hz5⟩
        clear ho5 hb5 hz5 Hp
        have Hl := Lib.hid hl
        have hn63 : n ≤ 1000000000 := by rw [← hl]; exact hbig
        clear hl hbig
        go_loopg [10, 11] n (fun gh out i wr => ∃ k : Nat, k ≤ n ∧ gh = n - k ∧ i = .int .i64 k ∧ OutW w0 w0.heap.size (outX mc (-1) tc (tv.take k)) out wr)
        case atStart => exact ⟨0, Nat.zero_le _, rfl, rfl, HOUT⟩
        case round =>
          obtain ⟨k, hk, rfl, rfl, A8, c8, rfl, ho8, hb8, hz8⟩ := hrel
          have x2 : wr.cell? ⟨w.heap.size, 2, none⟩ = some (.slice A n cp) := (ht0.below hb8 (by omega)).cell 2
          by_cases hlk : k < n
          · have hk' : k < tv.length := by rw [Hl.out]; exact hlk
            obtain ⟨b, off, rfl, hb, hcell⟩ := (hr0.below (hb8.mono (by omega))).at_ (by omega)
            have q0 := hcell k hk'
            have htk : tv.take (k + 1) = tv.take k ++ [tv[k]] := by rw [List.take_succ_eq_append_getElem hk']
            have hlen : (outX mc (-1) tc (tv.take k)).length ≤ 1000000001 := by
              have h1 := outX_len mc (-1) tc (tv.take k)
              have h3 : (tv.take k).length ≤ k := List.length_take_le _ _
              omega
            generalize tv[k] = V at q0 htk
            have hstep : outX mc (-1) tc (tv.take (k + 1)) = outX mc (-1) tc (tv.take k) ++ putQ mc (-1) V 0 := by unfold outX; rw [htk, putsV_snoc, List.append_assoc]
            generalize outX mc (-1) tc (tv.take k) = xs at ho8 hlen hstep ⊢
            clear htk hcell
            by_cases hc3 : mc < 3
            · have e3 : ¬ (mc = 3) := by omega
              by_cases hvr : V = (-1)
              · have Hst : Hid (outX mc (-1) tc (tv.take (k + 1)) = xs) := by show _ = _; rw [hstep]; simp [putQ, putsQ, hvr]
                have d1 : (V != (-1)) = false := by simp [hvr]
                clear hstep hvr e3
                go_wp2_with fail
                go_roundg (n - (k + 1))
                case measure => omega
                case rel => exact ⟨k + 1, by omega, rfl, by go_num, by rw [Hst.out]; exact ⟨A8, c8, rfl, ho8, hb8, hz8⟩⟩
              · have Hst : Hid (outX mc (-1) tc (tv.take (k + 1)) = xs ++ [⟨V, 0, mc, (-1)⟩]) := by show _ = _; rw [hstep]; simp [putQ, putsQ, hvr, e3]
                have d1 : (V != (-1)) = true := by simp [hvr]
                clear hstep hvr e3
                go_wp2_with (at_builtin; refine wpList_append_one w0 wr rfl (.tmp 57) (.tmp 67) 37 rfl w0.heap.size 36 i0 _ 4 32 Tryd.underlying37 hi0 hz0 hz1 hz2 rfl (by omega) (.slice A8 xs.length c8) xs.length (icellsL xs) rfl (icells ⟨V, 0, mc, (-1)⟩) rfl (by intro u hu; simp [icells] at hu; rcases hu with rfl | rfl | rfl | rfl <;> rfl) rfl ho8 (by unfold maxLen; omega) (by omega) hb8 hz8 ?_; intro A9 c9 w9 ho9 hb9 hg9 hz9; clear hg9)
                go_roundg (n - (k + 1))
                case measure => omega
                case rel => exact ⟨k + 1, by omega, rfl, by go_num, by rw [Hst.out]; exact ⟨A9, c9, by first | rfl | simp, by rw [icellsL_append, icellsL_one, List.length_append]; exact ho9, hb9, by omega⟩⟩
            · have Hst : Hid (outX mc (-1) tc (tv.take (k + 1)) = xs) := by show _ = _; rw [hstep]; simp [putQ, putsQ, show mc = 3 by omega]
              clear hstep
              go_wp2_with fail
              go_roundg (n - (k + 1))
              case measure => omega
              case rel => exact ⟨k + 1, by omega, rfl, by go_num, by rw [Hst.out]; exact ⟨A8, c8, rfl, ho8, hb8, hz8⟩⟩
          · have hkn : k = n := by omega
            subst hkn
            have HF : Hid (outX mc (-1) tc (tv.take k) = fitsQ ⟨false, tc, tv⟩ g mv mc) := by show _ = _; rw [Hfit.out, List.take_of_length_le (by rw [Hl.out]; exact Nat.le_refl _)]
            clear Hfit
            go_wp2_with fail
            go_ret
            exact ⟨A8, _, c8, rfl, by rw [← HF.out]; exact IneqsV.of_own ho8, hb0.trans (hb8.mono (by omega))⟩
      · skip
        have hp : putQ mc (-1) 0 tc = [] := by simp [putQ, putsQ, htop, show ¬ (tc = 0) by omega]
        have HOUT : OutW (F0 ⟨false, tc, tv⟩ A n cp mv mc w) (F0 ⟨false, tc, tv⟩ A n cp mv mc w).heap.size (outX mc (-1) tc ((tv : List Int).take 0)) (.slice none 0 0) (F0 ⟨false, tc, tv⟩ A n cp mv mc w) := ⟨none, 0, by rw [List.take_zero]; unfold outX; rw [hp]; rfl, by rw [List.take_zero]; unfold outX; rw [hp]; exact World.ownsRow_nil _ _ _ _, Below.refl _ _, Nat.le_refl _⟩
        clear hp
        go_wp2_with fail
        show Code.wp _ _ _ _ (F0 ⟨false, tc, tv⟩ A n cp mv mc w)
        generalize F0 ⟨false, tc, tv⟩ A n cp mv mc w = w0 at hb0 hs0 ht0 hm0 hr0 HOUT ⊢
        have Hl := Lib.hid hl
        have hn63 : n ≤ 1000000000 := by rw [← hl]; exact hbig
        clear hl hbig
        go_loopg [10, 11] n (fun gh out i wr => ∃ k : Nat, k ≤ n ∧ gh = n - k ∧ i = .int .i64 k ∧ OutW w0 w0.heap.size (outX mc (-1) tc (tv.take k)) out wr)
        case atStart => exact ⟨0, Nat.zero_le _, rfl, rfl, HOUT⟩
        case round =>
          obtain ⟨k, hk, rfl, rfl, A8, c8, rfl, ho8, hb8, hz8⟩ := hrel
          have x2 : wr.cell? ⟨w.heap.size, 2, none⟩ = some (.slice A n cp) := (ht0.below hb8 (by omega)).cell 2
          by_cases hlk : k < n
          · have hk' : k < tv.length := by rw [Hl.out]; exact hlk
            obtain ⟨b, off, rfl, hb, hcell⟩ := (hr0.below (hb8.mono (by omega))).at_ (by omega)
            have q0 := hcell k hk'
            have htk : tv.take (k + 1) = tv.take k ++ [tv[k]] := by rw [List.take_succ_eq_append_getElem hk']
            have hlen : (outX mc (-1) tc (tv.take k)).length ≤ 1000000001 := by
              have h1 := outX_len mc (-1) tc (tv.take k)
              have h3 : (tv.take k).length ≤ k := List.length_take_le _ _
              omega
            generalize tv[k] = V at q0 htk
            have hstep : outX mc (-1) tc (tv.take (k + 1)) = outX mc (-1) tc (tv.take k) ++ putQ mc (-1) V 0 := by unfold outX; rw [htk, putsV_snoc, List.append_assoc]
            generalize outX mc (-1) tc (tv.take k) = xs at ho8 hlen hstep ⊢
            clear htk hcell
            by_cases hc3 : mc < 3
            · have e3 : ¬ (mc = 3) := by omega
              by_cases hvr : V = (-1)
              · have Hst : Hid (outX mc (-1) tc (tv.take (k + 1)) = xs) := by show _ = _; rw [hstep]; simp [putQ, putsQ, hvr]
                have d1 : (V != (-1)) = false := by simp [hvr]
                clear hstep hvr e3
                go_wp2_with fail
                go_roundg (n - (k + 1))
                case measure => omega
                case rel => exact ⟨k + 1, by omega, rfl, by go_num, by rw [Hst.out]; exact ⟨A8, c8, rfl, ho8, hb8, hz8⟩⟩
              · have Hst : Hid (outX mc (-1) tc (tv.take (k + 1)) = xs ++ [⟨V, 0, mc, (-1)⟩]) := by show _ = _; rw [hstep]; simp [putQ, putsQ, hvr, e3]
                have d1 : (V != (-1)) = true := by simp [hvr]
                clear hstep hvr e3
                go_wp2_with (at_builtin; refine wpList_append_one w0 wr rfl (.tmp 57) (.tmp 67) 37 rfl w0.heap.size 36 i0 _ 4 32 Tryd.underlying37 hi0 hz0 hz1 hz2 rfl (by omega) (.slice A8 xs.length c8) xs.length (icellsL xs) rfl (icells ⟨V, 0, mc, (-1)⟩) rfl (by intro u hu; simp [icells] at hu; rcases hu with rfl | rfl | rfl | rfl <;> rfl) rfl ho8 (by unfold maxLen; omega) (by omega) hb8 hz8 ?_; intro A9 c9 w9 ho9 hb9 hg9 hz9; clear hg9)
                go_roundg (n - (k + 1))
                case measure => omega
                case rel => exact ⟨k + 1, by omega, rfl, by go_num, by rw [Hst.out]; exact ⟨A9, c9, by first | rfl | simp, by rw [icellsL_append, icellsL_one, List.length_append]; exact ho9, hb9, by omega⟩⟩
            · have Hst : Hid (outX mc (-1) tc (tv.take (k + 1)) = xs) := by show _ = _; rw [hstep]; simp [putQ, putsQ, show mc = 3 by omega]
              clear hstep
              go_wp2_with fail
              go_roundg (n - (k + 1))
              case measure => omega
              case rel => exact ⟨k + 1, by omega, rfl, by go_num, by rw [Hst.out]; exact ⟨A8, c8, rfl, ho8, hb8, hz8⟩⟩
          · have hkn : k = n := by omega
            subst hkn
            have HF : Hid (outX mc (-1) tc (tv.take k) = fitsQ ⟨false, tc, tv⟩ g mv mc) := by show _ = _; rw [Hfit.out, List.take_of_length_le (by rw [Hl.out]; exact Nat.le_refl _)]
            clear Hfit
            go_wp2_with fail
            go_ret
            exact ⟨A8, _, c8, rfl, by rw [← HF.out]; exact IneqsV.of_own ho8, hb0.trans (hb8.mono (by omega))⟩
    · have Hfit : Hid (fitsQ ⟨false, tc, tv⟩ g mv mc = outX g (-1) tc tv) := by show _ = _; unfold fitsQ fitsL outX; rw [show max g mc = g by omega, if_neg h0]; rfl
      clear h0
      go_enter Tryd.func25, Tryd.ntmps25
      by_cases htop : g < tc
      · skip
        have hp : putQ g (-1) 0 tc = [⟨0, tc, g, (-1)⟩] := by simp [putQ, putsQ, htop, show ¬ (tc = 0) by omega]
        have Hp := Lib.hid hp
        clear hp
        go_wp2_with (at_builtin; refine wpList_append_one (F0 ⟨false, tc, tv⟩ A n cp mv mc w) (F0 ⟨false, tc, tv⟩ A n cp mv mc w) rfl (.tmp 31) (.tmp 37) 37 rfl (F0 ⟨false, tc, tv⟩ A n cp mv mc w).heap.size 36 i0 _ 4 32 Tryd.underlying37 hi0 hz0 hz1 hz2 rfl (by omega) (.slice none 0 0) 0 [] rfl (icells ⟨0, tc, g, (-1)⟩) rfl (by intro u hu; simp [icells] at hu; rcases hu with rfl | rfl | rfl | rfl <;> rfl) (by rw [hs0]; rfl) (World.ownsRow_nil _ _ _ _) (by unfold maxLen; omega) (by omega) (Below.refl _ _) (Nat.le_refl _) ?_; intro A5 c5 w5 ho5 hb5 hg5 hz5; clear hg5)
        generalize F0 ⟨false, tc, tv⟩ A n cp mv mc w = w0 at hb0 hs0 ht0 hm0 hr0 ho5 hb5 hz5 ⊢
        have HOUT : OutW w0 w0.heap.size (outX g (-1) tc ((tv : List Int).take 0)) (.slice A5 1 c5) w5 := ⟨A5, c5, by rw [List.take_zero]; unfold outX; rw [Hp.out]; rfl, by rw [List.take_zero]; unfold outX; rw [Hp.out]; exact ho5, hb5, hz5⟩
        clear ho5 hb5 hz5 Hp
        have Hl := Lib.hid hl
        have hn63 : n ≤ 1000000000 := by rw [← hl]; exact hbig
        clear hl hbig
        go_loopg [10, 11] n (fun gh out i wr => ∃ k : Nat, k ≤ n ∧ gh = n - k ∧ i = .int .i64 k ∧ OutW w0 w0.heap.size (outX g (-1) tc (tv.take k)) out wr)
        case atStart => exact ⟨0, Nat.zero_le _, rfl, rfl, HOUT⟩
        case round =>
          obtain ⟨k, hk, rfl, rfl, A8, c8, rfl, ho8, hb8, hz8⟩ := hrel
          have x2 : wr.cell? ⟨w.heap.size, 2, none⟩ = some (.slice A n cp) := (ht0.below hb8 (by omega)).cell 2
          by_cases hlk : k < n
          · have hk' : k < tv.length := by rw [Hl.out]; exact hlk
            obtain ⟨b, off, rfl, hb, hcell⟩ := (hr0.below (hb8.mono (by omega))).at_ (by omega)
            have q0 := hcell k hk'
            have htk : tv.take (k + 1) = tv.take k ++ [tv[k]] := by rw [List.take_succ_eq_append_getElem hk']
            have hlen : (outX g (-1) tc (tv.take k)).length ≤ 1000000001 := by
              have h1 := outX_len g (-1) tc (tv.take k)
              have h3 : (tv.take k).length ≤ k := List.length_take_le _ _
              omega
            generalize tv[k] = V at q0 htk
            have hstep : outX g (-1) tc (tv.take (k + 1)) = outX g (-1) tc (tv.take k) ++ putQ g (-1) V 0 := by unfold outX; rw [htk, putsV_snoc, List.append_assoc]
            generalize outX g (-1) tc (tv.take k) = xs at ho8 hlen hstep ⊢
            clear htk hcell
            by_cases hc3 : g < 3
            · have e3 : ¬ (g = 3) := by omega
              by_cases hvr : V = (-1)
              · have Hst : Hid (outX g (-1) tc (tv.take (k + 1)) = xs) := by show _ = _; rw [hstep]; simp [putQ, putsQ, hvr]
                have d1 : (V != (-1)) = false := by simp [hvr]
                clear hstep hvr e3
                go_wp2_with fail
                go_roundg (n - (k + 1))
                case measure => omega
                case rel => exact ⟨k + 1, by omega, rfl, by go_num, by rw [Hst.out]; exact ⟨A8, c8, rfl, ho8, hb8, hz8⟩⟩
              · have Hst : Hid (outX g (-1) tc (tv.take (k + 1)) = xs ++ [⟨V, 0, g, (-1)⟩]) := by show _ = _; rw [hstep]; simp [putQ, putsQ, hvr, e3]
                have d1 : (V != (-1)) = true := by simp [hvr]
                clear hstep hvr e3
                go_wp2_with (at_builtin; refine wpList_append_one w0 wr rfl (.tmp 57) (.tmp 67) 37 rfl w0.heap.size 36 i0 _ 4 32 Tryd.underlying37 hi0 hz0 hz1 hz2 rfl (by omega) (.slice A8 xs.length c8) xs.length (icellsL xs) rfl (icells ⟨V, 0, g, (-1)⟩) rfl (by intro u hu; simp [icells] at hu; rcases hu with rfl | rfl | rfl | rfl <;> rfl) rfl ho8 (by unfold maxLen; omega) (by omega) hb8 hz8 ?_; intro A9 c9 w9 ho9 hb9 hg9 hz9; clear hg9)
                go_roundg (n - (k + 1))
                case measure => omega
                case rel => exact ⟨k + 1, by omega, rfl, by go_num, by rw [Hst.out]; exact ⟨A9, c9, by first | rfl | simp, by rw [icellsL_append, icellsL_one, List.length_append]; exact ho9, hb9, by omega⟩⟩
            · have Hst : Hid (outX g (-1) tc (tv.take (k + 1)) = xs) := by show _ = _; rw [hstep]; simp [putQ, putsQ, show g = 3 by omega]
              clear hstep
              go_wp2_with fail
              go_roundg (n - (k + 1))
              case measure => omega
              case rel => exact ⟨k + 1, by omega, rfl, by go_num, by rw [Hst.out]; exact ⟨A8, c8, rfl, ho8, hb8, hz8⟩⟩
          · have hkn : k = n := by omega
            subst hkn
            have HF : Hid (outX g (-1) tc (tv.take k) = fitsQ ⟨false, tc, tv⟩ g mv mc) := by show _ = _; rw [Hfit.out, List.take_of_length_le (by rw [Hl.out]; exact Nat.le_refl _)]
            clear Hfit
            go_wp2_with fail
            go_ret
            exact ⟨A8, _, c8, rfl, by rw [← HF.out]; exact IneqsV.of_own ho8, hb0.trans (hb8.mono (by omega))⟩
      · skip
        have hp : putQ g (-1) 0 tc = [] := by simp [putQ, putsQ, htop, show ¬ (tc = 0) by omega]
        have HOUT : OutW (F0 ⟨false, tc, tv⟩ A n cp mv mc w) (F0 ⟨false, tc, tv⟩ A n cp mv mc w).heap.size (outX g (-1) tc ((tv : List Int).take 0)) (.slice none 0 0) (F0 ⟨false, tc, tv⟩ A n cp mv mc w) := ⟨none, 0, by rw [List.take_zero]; unfold outX; rw [hp]; rfl, by rw [List.take_zero]; unfold outX; rw [hp]; exact World.ownsRow_nil _ _ _ _, Below.refl _ _, Nat.le_refl _⟩
        clear hp
        go_wp2_with fail
        show Code.wp _ _ _ _ (F0 ⟨false, tc, tv⟩ A n cp mv mc w)
        generalize F0 ⟨false, tc, tv⟩ A n cp mv mc w = w0 at hb0 hs0 ht0 hm0 hr0 HOUT ⊢
        have Hl := Lib.hid hl
        have hn63 : n ≤ 1000000000 := by rw [← hl]; exact hbig
        clear hl hbig
        go_loopg [10, 11] n (fun gh out i wr => ∃ k : Nat, k ≤ n ∧ gh = n - k ∧ i = .int .i64 k ∧ OutW w0 w0.heap.size (outX g (-1) tc (tv.take k)) out wr)
        case atStart => exact ⟨0, Nat.zero_le _, rfl, rfl, HOUT⟩
        case round =>
          obtain ⟨k, hk, rfl, rfl, A8, c8, rfl, ho8, hb8, hz8⟩ := hrel
          have x2 : wr.cell? ⟨w.heap.size, 2, none⟩ = some (.slice A n cp) := (ht0.below hb8 (by omega)).cell 2
          by_cases hlk : k < n
          · have hk' : k < tv.length := by rw [Hl.out]; exact hlk
            obtain ⟨b, off, rfl, hb, hcell⟩ := (hr0.below (hb8.mono (by omega))).at_ (by omega)
            have q0 := hcell k hk'
            have htk : tv.take (k + 1) = tv.take k ++ [tv[k]] := by rw [List.take_succ_eq_append_getElem hk']
            have hlen : (outX g (-1) tc (tv.take k)).length ≤ 1000000001 := by
              have h1 := outX_len g (-1) tc (tv.take k)
              have h3 : (tv.take k).length ≤ k := List.length_take_le _ _
              omega
            generalize tv[k] = V at q0 htk
            have hstep : outX g (-1) tc (tv.take (k + 1)) = outX g (-1) tc (tv.take k) ++ putQ g (-1) V 0 := by unfold outX; rw [htk, putsV_snoc, List.append_assoc]
            generalize outX g (-1) tc (tv.take k) = xs at ho8 hlen hstep ⊢
            clear htk hcell
            by_cases hc3 : g < 3
            · have e3 : ¬ (g = 3) := by omega
              by_cases hvr : V = (-1)
              · have Hst : Hid (outX g (-1) tc (tv.take (k + 1)) = xs) := by show _ = _; rw [hstep]; simp [putQ, putsQ, hvr]
                have d1 : (V != (-1)) = false := by simp [hvr]
                clear hstep hvr e3
                go_wp2_with fail
                go_roundg (n - (k + 1))
                case measure => omega
                case rel => exact ⟨k + 1, by omega, rfl, by go_num, by rw [Hst.out]; exact ⟨A8, c8, rfl, ho8, hb8, hz8⟩⟩
              · have Hst : Hid (outX g (-1) tc (tv.take (k + 1)) = xs ++ [⟨V, 0, g, (-1)⟩]) := by show _ = _; rw [hstep]; simp [putQ, putsQ, hvr, e3]
                have d1 : (V != (-1)) = true := by simp [hvr]
                clear hstep hvr e3
                go_wp2_with (at_builtin; refine wpList_append_one w0 wr rfl (.tmp 57) (.tmp 67) 37 rfl w0.heap.size 36 i0 _ 4 32 Tryd.underlying37 hi0 hz0 hz1 hz2 rfl (by omega) (.slice A8 xs.length c8) xs.length (icellsL xs) rfl (icells ⟨V, 0, g, (-1)⟩) rfl (by intro u hu; simp [icells] at hu; rcases hu with rfl | rfl | rfl | rfl <;> rfl) rfl ho8 (by unfold maxLen; omega) (by omega) hb8 hz8 ?_; intro A9 c9 w9 ho9 hb9 hg9 hz9; clear hg9)
                go_roundg (n - (k + 1))
                case measure => omega
                case rel => exact ⟨k + 1, by omega, rfl, by go_num, by rw [Hst.out]; exact ⟨A9, c9, by first | rfl | simp, by rw [icellsL_append, icellsL_one, List.length_append]; exact ho9, hb9, by omega⟩⟩
            · have Hst : Hid (outX g (-1) tc (tv.take (k + 1)) = xs) := by show _ = _; rw [hstep]; simp [putQ, putsQ, show g = 3 by omega]
              clear hstep
              go_wp2_with fail
              go_roundg (n - (k + 1))
              case measure => omega
              case rel => exact ⟨k + 1, by omega, rfl, by go_num, by rw [Hst.out]; exact ⟨A8, c8, rfl, ho8, hb8, hz8⟩⟩
          · have hkn : k = n := by omega
            subst hkn
            have HF : Hid (outX g (-1) tc (tv.take k) = fitsQ ⟨false, tc, tv⟩ g mv mc) := by show _ = _; rw [Hfit.out, List.take_of_length_le (by rw [Hl.out]; exact Nat.le_refl _)]
            clear Hfit
            go_wp2_with fail
            go_ret
            exact ⟨A8, _, c8, rfl, by rw [← HF.out]; exact IneqsV.of_own ho8, hb0.trans (hb8.mono (by omega))⟩

set_option maxRecDepth 100000 in
set_option maxHeartbeats 4000000 in
theorem refFits_never (v : Value) (tc : Int) (g mv mc : Int) (w : World) (B : Nat) (hv : TermV w B v ⟨true, tc, []⟩) (hB : B ≤ w.heap.size) (hg1 : 1 ≤ g) (hg2 : g ≤ 3) (hmc : 0 ≤ mc ∧ mc ≤ 3) :
    Calls Tryd.prog 25 #[v, .int .u8 g, .agg #[.int .i64 mv, .int .u8 mc]] w fun e w' => ∃ A n c, e = .returned (.slice A n c) ∧ IneqsV w' w'.heap.size A n c (fitsQ ⟨true, tc, []⟩ g mv mc) ∧ Below w.heap.size w w' := by
  obtain ⟨i0, hi0, hz0, hz1, hz2⟩ := info_parts ineqInfo
  obtain ⟨A, n, cp, rfl, hr⟩ := hv
  obtain rfl : 0 = n := hr.len
  obtain ⟨hb0, hs0, ht0, hm0⟩ := F0_facts ⟨true, tc, []⟩ A 0 cp mv mc w
  have hr0 := (hr.more hB).below hb0
  clear hr
  by_cases h0 : mc = 0
  · subst h0
    have Hfit : Hid (fitsQ ⟨true, tc, []⟩ g mv 0 = outX g mv 2 []) := by show _ = _; unfold fitsQ fitsL outX; rw [show max g 0 = g by omega]; rfl
    go_enter Tryd.func25, Tryd.ntmps25
    by_cases htop : g < 2
    · skip
      have hp : putQ g mv 0 2 = [⟨0, 2, g, mv⟩] := by simp [putQ, putsQ, htop, show ¬ (2 = 0) by omega]
      have Hp := Lib.hid hp
      clear hp
      go_wp2_with (at_builtin; refine wpList_append_one (F0 ⟨true, tc, []⟩ A 0 cp mv 0 w) (F0 ⟨true, tc, []⟩ A 0 cp mv 0 w) rfl (.tmp 31) (.tmp 37) 37 rfl (F0 ⟨true, tc, []⟩ A 0 cp mv 0 w).heap.size 36 i0 _ 4 32 Tryd.underlying37 hi0 hz0 hz1 hz2 rfl (by omega) (.slice none 0 0) 0 [] rfl (icells ⟨0, 2, g, mv⟩) rfl (by intro u hu; simp [icells] at hu; rcases hu with rfl | rfl | rfl | rfl <;> rfl) (by rw [hs0]; rfl) (World.ownsRow_nil _ _ _ _) (by unfold maxLen; omega) (by omega) (Below.refl _ _) (Nat.le_refl _) ?_; intro A5 c5 w5 ho5 hb5 hg5 hz5; clear hg5)
      generalize F0 ⟨true, tc, []⟩ A 0 cp mv 0 w = w0 at hb0 hs0 ht0 hm0 hr0 ho5 hb5 hz5 ⊢
      have HOUT : OutW w0 w0.heap.size (outX g mv 2 (([] : List Int).take 0)) (.slice A5 1 c5) w5 := ⟨A5, c5, by rw [List.take_zero]; unfold outX; rw [Hp.out]; rfl, by rw [List.take_zero]; unfold outX; rw [Hp.out]; exact ho5, hb5, hz5⟩
      clear ho5 hb5 hz5 Hp
      go_loopg [10, 11] 0 (fun gh out i wr => gh = 0 ∧ i = .int .i64 0 ∧ OutW w0 w0.heap.size (outX g mv 2 (([] : List Int).take 0)) out wr)
      case atStart => exact ⟨rfl, rfl, HOUT⟩
      case round =>
        obtain ⟨rfl, rfl, A8, c8, rfl, ho8, hb8, hz8⟩ := hrel
        have x2 : wr.cell? ⟨w.heap.size, 2, none⟩ = some (.slice A 0 cp) := (ht0.below hb8 (by omega)).cell 2
        go_wp2_with fail
        go_ret
        exact ⟨A8, _, c8, rfl, by rw [Hfit.out]; exact IneqsV.of_own ho8, hb0.trans (hb8.mono (by omega))⟩
    · skip
      have hp : putQ g mv 0 2 = [] := by simp [putQ, putsQ, htop, show ¬ (2 = 0) by omega]
      have HOUT : OutW (F0 ⟨true, tc, []⟩ A 0 cp mv 0 w) (F0 ⟨true, tc, []⟩ A 0 cp mv 0 w).heap.size (outX g mv 2 (([] : List Int).take 0)) (.slice none 0 0) (F0 ⟨true, tc, []⟩ A 0 cp mv 0 w) := ⟨none, 0, by rw [List.take_zero]; unfold outX; rw [hp]; rfl, by rw [List.take_zero]; unfold outX; rw [hp]; exact World.ownsRow_nil _ _ _ _, Below.refl _ _, Nat.le_refl _⟩
      clear hp
      go_wp2_with fail
      show Code.wp _ _ _ _ (F0 ⟨true, tc, []⟩ A 0 cp mv 0 w)
      generalize F0 ⟨true, tc, []⟩ A 0 cp mv 0 w = w0 at hb0 hs0 ht0 hm0 hr0 HOUT ⊢
      go_loopg [10, 11] 0 (fun gh out i wr => gh = 0 ∧ i = .int .i64 0 ∧ OutW w0 w0.heap.size (outX g mv 2 (([] : List Int).take 0)) out wr)
      case atStart => exact ⟨rfl, rfl, HOUT⟩
      case round =>
        obtain ⟨rfl, rfl, A8, c8, rfl, ho8, hb8, hz8⟩ := hrel
        have x2 : wr.cell? ⟨w.heap.size, 2, none⟩ = some (.slice A 0 cp) := (ht0.below hb8 (by omega)).cell 2
        go_wp2_with fail
        go_ret
        exact ⟨A8, _, c8, rfl, by rw [Hfit.out]; exact IneqsV.of_own ho8, hb0.trans (hb8.mono (by omega))⟩
  · have hz : (mc == 0) = false := by simp [h0]
    by_cases hgm : g < mc
    · have Hfit : Hid (fitsQ ⟨true, tc, []⟩ g mv mc = outX mc (-1) 2 []) := by show _ = _; unfold fitsQ fitsL outX; rw [show max g mc = mc by omega, if_neg h0]; rfl
      have htop : ¬ mc < 2 := by omega
      clear h0
      go_enter Tryd.func25, Tryd.ntmps25
      have hp : putQ mc (-1) 0 2 = [] := by simp [putQ, putsQ, htop, show ¬ (2 = 0) by omega]
      have HOUT : OutW (F0 ⟨true, tc, []⟩ A 0 cp mv mc w) (F0 ⟨true, tc, []⟩ A 0 cp mv mc w).heap.size (outX mc (-1) 2 (([] : List Int).take 0)) (.slice none 0 0) (F0 ⟨true, tc, []⟩ A 0 cp mv mc w) := ⟨none, 0, by rw [List.take_zero]; unfold outX; rw [hp]; rfl, by rw [List.take_zero]; unfold outX; rw [hp]; exact World.ownsRow_nil _ _ _ _, Below.refl _ _, Nat.le_refl _⟩
      clear hp
      go_wp2_with fail
      show Code.wp _ _ _ _ (F0 ⟨true, tc, []⟩ A 0 cp mv mc w)
      generalize F0 ⟨true, tc, []⟩ A 0 cp mv mc w = w0 at hb0 hs0 ht0 hm0 hr0 HOUT ⊢
      go_loopg [10, 11] 0 (fun gh out i wr => gh = 0 ∧ i = .int .i64 0 ∧ OutW w0 w0.heap.size (outX mc (-1) 2 (([] : List Int).take 0)) out wr)
      case atStart => exact ⟨rfl, rfl, HOUT⟩
      case round =>
        obtain ⟨rfl, rfl, A8, c8, rfl, ho8, hb8, hz8⟩ := hrel
        have x2 : wr.cell? ⟨w.heap.size, 2, none⟩ = some (.slice A 0 cp) := (ht0.below hb8 (by omega)).cell 2
        go_wp2_with fail
        go_ret
        exact ⟨A8, _, c8, rfl, by rw [Hfit.out]; exact IneqsV.of_own ho8, hb0.trans (hb8.mono (by omega))⟩
    · have Hfit : Hid (fitsQ ⟨true, tc, []⟩ g mv mc = outX g (-1) 2 []) := by show _ = _; unfold fitsQ fitsL outX; rw [show max g mc = g by omega, if_neg h0]; rfl
      clear h0
      go_enter Tryd.func25, Tryd.ntmps25
      by_cases htop : g < 2
      · skip
        have hp : putQ g (-1) 0 2 = [⟨0, 2, g, (-1)⟩] := by simp [putQ, putsQ, htop, show ¬ (2 = 0) by omega]
        have Hp := Lib.hid hp
        clear hp
        go_wp2_with (at_builtin; refine wpList_append_one (F0 ⟨true, tc, []⟩ A 0 cp mv mc w) (F0 ⟨true, tc, []⟩ A 0 cp mv mc w) rfl (.tmp 31) (.tmp 37) 37 rfl (F0 ⟨true, tc, []⟩ A 0 cp mv mc w).heap.size 36 i0 _ 4 32 Tryd.underlying37 hi0 hz0 hz1 hz2 rfl (by omega) (.slice none 0 0) 0 [] rfl (icells ⟨0, 2, g, (-1)⟩) rfl (by intro u hu; simp [icells] at hu; rcases hu with rfl | rfl | rfl | rfl <;> rfl) (by rw [hs0]; rfl) (World.ownsRow_nil _ _ _ _) (by unfold maxLen; omega) (by omega) (Below.refl _ _) (Nat.le_refl _) ?_; intro A5 c5 w5 ho5 hb5 hg5 hz5; clear hg5)
        generalize F0 ⟨true, tc, []⟩ A 0 cp mv mc w = w0 at hb0 hs0 ht0 hm0 hr0 ho5 hb5 hz5 ⊢
        have HOUT : OutW w0 w0.heap.size (outX g (-1) 2 (([] : List Int).take 0)) (.slice A5 1 c5) w5 := ⟨A5, c5, by rw [List.take_zero]; unfold outX; rw [Hp.out]; rfl, by rw [List.take_zero]; unfold outX; rw [Hp.out]; exact ho5, hb5, hz5⟩
        clear ho5 hb5 hz5 Hp
        go_loopg [10, 11] 0 (fun gh out i wr => gh = 0 ∧ i = .int .i64 0 ∧ OutW w0 w0.heap.size (outX g (-1) 2 (([] : List Int).take 0)) out wr)
        case atStart => exact ⟨rfl, rfl, HOUT⟩
        case round =>
          obtain ⟨rfl, rfl, A8, c8, rfl, ho8, hb8, hz8⟩ := hrel
          have x2 : wr.cell? ⟨w.heap.size, 2, none⟩ = some (.slice A 0 cp) := (ht0.below hb8 (by omega)).cell 2
          go_wp2_with fail
          go_ret
          exact ⟨A8, _, c8, rfl, by rw [Hfit.out]; exact IneqsV.of_own ho8, hb0.trans (hb8.mono (by omega))⟩
      · skip
        have hp : putQ g (-1) 0 2 = [] := by simp [putQ, putsQ, htop, show ¬ (2 = 0) by omega]
        have HOUT : OutW (F0 ⟨true, tc, []⟩ A 0 cp mv mc w) (F0 ⟨true, tc, []⟩ A 0 cp mv mc w).heap.size (outX g (-1) 2 (([] : List Int).take 0)) (.slice none 0 0) (F0 ⟨true, tc, []⟩ A 0 cp mv mc w) := ⟨none, 0, by rw [List.take_zero]; unfold outX; rw [hp]; rfl, by rw [List.take_zero]; unfold outX; rw [hp]; exact World.ownsRow_nil _ _ _ _, Below.refl _ _, Nat.le_refl _⟩
        clear hp
        go_wp2_with fail
        show Code.wp _ _ _ _ (F0 ⟨true, tc, []⟩ A 0 cp mv mc w)
        generalize F0 ⟨true, tc, []⟩ A 0 cp mv mc w = w0 at hb0 hs0 ht0 hm0 hr0 HOUT ⊢
        go_loopg [10, 11] 0 (fun gh out i wr => gh = 0 ∧ i = .int .i64 0 ∧ OutW w0 w0.heap.size (outX g (-1) 2 (([] : List Int).take 0)) out wr)
        case atStart => exact ⟨rfl, rfl, HOUT⟩
        case round =>
          obtain ⟨rfl, rfl, A8, c8, rfl, ho8, hb8, hz8⟩ := hrel
          have x2 : wr.cell? ⟨w.heap.size, 2, none⟩ = some (.slice A 0 cp) := (ht0.below hb8 (by omega)).cell 2
          go_wp2_with fail
          go_ret
          exact ⟨A8, _, c8, rfl, by rw [Hfit.out]; exact IneqsV.of_own ho8, hb0.trans (hb8.mono (by omega))⟩

theorem refFits_any (v : Value) (t : TermD) (g mv mc : Int) (w : World) (B : Nat) (hv : TermV w B v t) (hB : B ≤ w.heap.size) (h : fitsB t g mv mc = true) (hbig : t.vars.length ≤ 1000000000) :
    Calls Tryd.prog 25 #[v, .int .u8 g, .agg #[.int .i64 mv, .int .u8 mc]] w fun e w' => ∃ A n c, e = .returned (.slice A n c) ∧ IneqsV w' w'.heap.size A n c (fitsQ t g mv mc) ∧ Below w.heap.size w w' := by
  unfold fitsB at h
  simp only [Bool.and_eq_true, decide_eq_true_eq] at h
  obtain ⟨⟨⟨hm, hi⟩, hg1⟩, hg2⟩ := h
  have hmc : 0 ≤ mc ∧ mc ≤ 3 := by
    unfold isB oneB at hi
    simp only [Bool.or_eq_true, Bool.and_eq_true, decide_eq_true_eq, beq_iff_eq] at hi
    omega
  obtain ⟨tn, tc, tv⟩ := t
  rcases (may_iff _).1 hm with ⟨h1, h2, h3⟩ | ⟨h1, h2, _⟩
  · have h1' : tn = true := h1
    have h3' : tv = [] := h3
    subst h1'; subst h3'
    exact refFits_never v tc g mv mc w B hv hB hg1 hg2 hmc
  · have h1' : tn = false := h1
    subst h1'
    exact refFits_some v tc tv g mv mc w B hv hB h2 hg1 hg2 hmc hbig
end Go.Proofs.YtbccnfgceabopaaDoor
