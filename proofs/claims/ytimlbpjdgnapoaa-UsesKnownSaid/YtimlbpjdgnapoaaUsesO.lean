/- usufructref17.both. -/
import Derived.Test.YtimlbpjdgnapoaaUsesM
namespace Go.Proofs.Ytimlbpjdgnapoaa
set_option linter.unusedVariables false
set_option linter.unusedSimpArgs false
open Go.RowKit

/-- what both has gathered when i and k variables have been passed -/
structure BothI (a b : List UseD) (O : List Int) (i k : Nat) : Prop where
  rise : Rises O
  mem : ∀ x, x ∈ O ↔ x ∈ (a.take i).map (·.v) ∨ x ∈ (b.take k).map (·.v)
  la : ∀ o ∈ O, ∀ j (h : j < a.length), i ≤ j → o < a[j].v
  lb : ∀ o ∈ O, ∀ j (h : j < b.length), k ≤ j → o < b[j].v
theorem bothI_start (a b : List UseD) : BothI a b [] 0 0 := ⟨List.Pairwise.nil, fun x => by simp, fun o h => by simp at h, fun o h => by simp at h⟩
theorem bothI_end {a b : List UseD} {O : List Int} {i k : Nat} (h : BothI a b O i k) (hi : a.length ≤ i) (hk : b.length ≤ k) : O = sset (varsOf [a, b]) := by
  refine (sset_eq h.rise fun x => ?_).symm
  rw [h.mem, List.take_of_length_le hi, List.take_of_length_le hk]
  simp [varsOf]
theorem mem_take_more {a : List UseD} {i i' : Nat} {v : Int} (hii : i ≤ i') (hil : i' ≤ a.length) (he : ∀ j (h : j < a.length), i ≤ j → j < i' → a[j].v = v) (x : Int) :
    x ∈ (a.take i').map (·.v) ↔ x ∈ (a.take i).map (·.v) ∨ (i < i' ∧ x = v) := by
  constructor
  · intro hx
    obtain ⟨y, hy, rfl⟩ := List.mem_map.1 hx
    obtain ⟨j, hj, rfl⟩ := List.getElem_of_mem hy
    rw [List.length_take] at hj
    rw [List.getElem_take]
    rcases Nat.lt_or_ge j i with h | h
    · exact .inl (List.mem_map.2 ⟨_, List.mem_take_iff_getElem.2 ⟨j, by omega, rfl⟩, rfl⟩)
    · exact .inr ⟨by omega, he j (by omega) h (by omega)⟩
  · rintro (hx | ⟨h, rfl⟩)
    · obtain ⟨y, hy, rfl⟩ := List.mem_map.1 hx
      obtain ⟨j, hj, rfl⟩ := List.mem_take_iff_getElem.1 hy
      exact List.mem_map.2 ⟨_, List.mem_take_iff_getElem.2 ⟨j, by omega, rfl⟩, rfl⟩
    · exact List.mem_map.2 ⟨a[i]'(by omega), List.mem_take_iff_getElem.2 ⟨i, by omega, rfl⟩, he i (by omega) (Nat.le_refl _) h⟩
theorem bothI_step {a b : List UseD} (ha : Good a) (hb : Good b) {O : List Int} {i k i' k' : Nat} {v : Int} (h : BothI a b O i k)
    (hii : i ≤ i') (hil : i' ≤ a.length) (hkk : k ≤ k') (hkl : k' ≤ b.length) (hea : ∀ j (h : j < a.length), i ≤ j → j < i' → a[j].v = v) (heb : ∀ j (h : j < b.length), k ≤ j → j < k' → b[j].v = v)
    (hfa : ∀ h : i' < a.length, a[i'].v ≠ v) (hfb : ∀ h : k' < b.length, b[k'].v ≠ v)
    (hv : (∃ h : i < a.length, a[i].v = v) ∨ (∃ h : k < b.length, b[k].v = v)) (hla : ∀ h : i < a.length, v ≤ a[i].v) (hlb : ∀ h : k < b.length, v ≤ b[k].v) :
    BothI a b (O ++ [v]) i' k' ∧ (i < i' ∨ k < k') := by
  have rise_le : ∀ {l : List UseD}, Good l → ∀ (x y : Nat) (h1 : x ≤ y) (h2 : y < l.length), l[x].v ≤ l[y].v := fun hl x y h1 h2 => by
    rcases Nat.lt_or_ge x y with h | h
    · have := (mayU_rise hl.mayU).up x y h h2; omega
    · have : x = y := by omega
      subst this; exact Int.le_refl _
  have hmove : i < i' ∨ k < k' := by
    rcases hv with ⟨h1, h2⟩ | ⟨h1, h2⟩
    · refine .inl ?_
      rcases Nat.lt_or_ge i i' with h' | h'
      · exact h'
      · have : i' = i := by omega
        subst this
        exact absurd h2 (hfa h1)
    · refine .inr ?_
      rcases Nat.lt_or_ge k k' with h' | h'
      · exact h'
      · have : k' = k := by omega
        subst this
        exact absurd h2 (hfb h1)
  have hOv : ∀ o ∈ O, o < v := fun o ho => by
    rcases hv with ⟨h1, h2⟩ | ⟨h1, h2⟩
    · rw [← h2]; exact h.la o ho i h1 (Nat.le_refl _)
    · rw [← h2]; exact h.lb o ho k h1 (Nat.le_refl _)
  refine ⟨⟨?_, fun x => ?_, fun o ho j hj hij => ?_, fun o ho j hj hij => ?_⟩, hmove⟩
  · unfold Rises
    rw [List.pairwise_append]
    exact ⟨h.rise, by simp, fun o ho x hx => by rw [List.mem_singleton] at hx; subst hx; exact hOv o ho⟩
  · rw [List.mem_append, List.mem_singleton, h.mem, mem_take_more hii hil hea, mem_take_more hkk hkl heb]
    constructor
    · rintro ((h1 | h1) | rfl)
      · exact .inl (.inl h1)
      · exact .inr (.inl h1)
      · rcases hmove with h1 | h1
        · exact .inl (.inr ⟨h1, rfl⟩)
        · exact .inr (.inr ⟨h1, rfl⟩)
    · rintro ((h1 | ⟨_, h1⟩) | (h1 | ⟨_, h1⟩))
      · exact .inl (.inl h1)
      · exact .inr h1
      · exact .inl (.inr h1)
      · exact .inr h1
  · have h1 := rise_le ha i' j hij hj
    have h2 := rise_le ha i i' hii (by omega)
    have h3 := hla (by omega)
    have h4 := hfa (by omega)
    rcases List.mem_append.1 ho with ho | ho
    · have := hOv o ho; omega
    · rw [List.mem_singleton] at ho; omega
  · have h1 := rise_le hb k' j hij hj
    have h2 := rise_le hb k k' hkk (by omega)
    have h3 := hlb (by omega)
    have h4 := hfb (by omega)
    rcases List.mem_append.1 ho with ho | ho
    · have := hOv o ho; omega
    · rw [List.mem_singleton] at ho; omega

set_option maxRecDepth 100000 in
set_option maxHeartbeats 4000000 in
theorem bothU_any (A : Option Addr) (n c : Nat) (a : List UseD) (A' : Option Addr) (n' c' : Nat) (b : List UseD) (w : World) (hx : UsesV w w.heap.size A n c a) (hy : UsesV w w.heap.size A' n' c' b) (ha : Good a) (hb : Good b) :
    Calls Try.prog 46 #[.slice A n c, .slice A' n' c'] w (RetI .i64 (sset (varsOf [a, b])) w) := by
  have hal := hx.len
  have hbl := hy.len
  have hna : n ≤ 1048576 := by rw [← hal]; exact (mayU_rises ha.mayU).2
  have hnb : n' ≤ 1048576 := by rw [← hbl]; exact (mayU_rises hb.mayU).2
  obtain ⟨i0, hi0, hz0, hz1, hz2⟩ := info_parts (show (Try.prog.info? 3).map (fun i => (i.zero, i.size, i.bytes)) = some (some (.int .i64 0), 1, 8) from by kernel_rfl)
  have Hx := Lib.hid hx
  have Hy := Lib.hid hy
  have Ha := Lib.hid ha
  have Hb := Lib.hid hb
  clear hx hy ha hb
  go_enter Try.func46, Try.ntmps46
  go_wp2_with fail
  go_loopg [5, 6, 7] (n + n') (fun gh so si sk wr => ∃ (i k m : Nat) (A1 : Option Addr) (c1 : Nat) (O : List Int), i ≤ n ∧ k ≤ n' ∧ gh = (n - i) + (n' - k) ∧ si = .int .i64 i ∧ sk = .int .i64 k ∧ so = .slice A1 m c1 ∧ m ≤ i + k ∧
    wr.ownsRow w.heap.size 3 1 (.slice A1 m c1) m (O.map (Value.int .i64)) ∧ BothI a b O i k ∧ Below w.heap.size w wr)
  case atStart => exact ⟨0, 0, 0, none, 0, [], Nat.zero_le _, Nat.zero_le _, by omega, rfl, rfl, rfl, Nat.le_refl _, World.ownsRow_nil _ _ _ _, bothI_start a b, Below.refl _ _⟩
  case round =>
    obtain ⟨i, k, m, A1, c1, O, hi, hk, rfl, rfl, rfl, rfl, hm, ho, hI, hbel⟩ := hrel
    have HI := Lib.hid hI
    have Ho := Lib.hid ho
    have Hbel := Lib.hid hbel
    have i1 : (0 : Int) ≤ (i : Int) := by omega
    have k1 : (0 : Int) ≤ (k : Int) := by omega
    -- the head cells
    have hca : i < n → ∃ bb oo x, A = some ⟨bb, oo, none⟩ ∧ wr.cell? ⟨bb, oo + i * 4, none⟩ = some (.int .i64 x) ∧ ∃ h : i < a.length, a[i].v = x := fun h => by
      obtain ⟨bb, oo, q, hb, hc⟩ := (Hx.out.below hbel).at_ (by omega)
      exact ⟨bb, oo, _, q, (hc i (by omega)).1, by omega, rfl⟩
    have hcb : k < n' → ∃ bb oo x, A' = some ⟨bb, oo, none⟩ ∧ wr.cell? ⟨bb, oo + k * 4, none⟩ = some (.int .i64 x) ∧ ∃ h : k < b.length, b[k].v = x := fun h => by
      obtain ⟨bb, oo, q, hb, hc⟩ := (Hy.out.below hbel).at_ (by omega)
      exact ⟨bb, oo, _, q, (hc k (by omega)).1, by omega, rfl⟩
    have Hca := Lib.hid hca
    have Hcb := Lib.hid hcb
    clear hca hcb hI ho hbel
    by_cases hin : i < n
    · have di : decide (i < n) = true := by simpa using hin
      obtain ⟨ba, oa, xa, rfl, ea, hal2, hxa⟩ := Hca.out hin
      have ea' := Lib.hid ea
      have ii2 : (i : Int) < n := by omega
      by_cases hkn : k < n'
      · have dk : decide (n' ≤ k) = false := by simpa using hkn
        obtain ⟨bb, ob, xb, rfl, eb, hbl2, hxb⟩ := Hcb.out hkn
        have kk2 : (k : Int) < n' := by omega
        by_cases hle : xa ≤ xb
        · have dl : decide (xa ≤ xb) = true := by simpa using hle
          have Hv : Hid ((∃ h : i < a.length, a[i].v = xa) ∨ (∃ h : k < b.length, b[k].v = xa)) := Lib.hid (.inl ⟨hal2, hxa⟩)
          have Hla : Hid (∀ h : i < a.length, xa ≤ a[i].v) := Lib.hid fun _ => by rw [hxa]; exact Int.le_refl _
          have Hlb : Hid (∀ h : k < b.length, xa ≤ b[k].v) := Lib.hid fun _ => by rw [hxb]; exact hle
          clear hxa hxb hle
          go_wp2_with fail
          go_quiet (fail)
          go_wp2_with fail
          have hbq := below_drewN_t (Below.refl wr.heap.size wr) nq
          obtain ⟨w1, hw1⟩ : ∃ w1, wr.drewN nq = w1 := ⟨_, rfl⟩
          rw [hw1] at hbq ⊢
          have Ho1 := Lib.hid (ownsRow_beyond Ho.out hbq)
          have Hbel1 := Lib.hid (Hbel.out.trans (hbq.mono Hbel.out.size))
          clear hbq hw1
          try clear ea
          try clear eb
          go_loopg [6] (n - i) (fun gh si wr2 => ∃ i' : Nat, i ≤ i' ∧ i' ≤ n ∧ gh = n - i' ∧ si = .int .i64 i' ∧ (∀ j (h : j < a.length), i ≤ j → j < i' → a[j].v = xa) ∧ w1 = wr2)
          case atStart => exact ⟨i, Nat.le_refl _, hi, rfl, rfl, fun j _ h1 h2 => absurd h1 (by omega), rfl⟩
          case round =>
            obtain ⟨i', hii, hil, rfl, rfl, hea, rfl⟩ := hrel
            have Hea := Lib.hid hea
            clear hea
            by_cases hin2 : i' < n
            · try (exfalso; omega)
              all_goals
                have d3 : decide (i' < n) = true := by simpa using hin2
                obtain ⟨b2, o2, q2, hb2, hc2⟩ := (Hx.out.below Hbel1.out).at_ (by omega)
                cases q2
                have hia : i' < a.length := by omega
                have y0 := (hc2 i' hia).1
                obtain ⟨y, hy⟩ : ∃ y, a[i'].v = y := ⟨_, rfl⟩
                rw [hy] at y0
                have HY := Lib.hid hy
                have j1 : (0 : Int) ≤ (i' : Int) := by omega
                have j2 : (i' : Int) < n := by omega
                clear hc2 hy
                by_cases hyv : y = xa
                · have d4 : (y == xa) = true := by simp [hyv]
                  have hea2 : ∀ j (h : j < a.length), i ≤ j → j < i' + 1 → a[j].v = xa := fun j h h1 h2 => by
                    rcases Nat.lt_or_ge j i' with h' | h'
                    · exact Hea.out j h h1 h'
                    · have : j = i' := by omega
                      subst this
                      rw [HY.out]; exact hyv
                  have Hea2 := Lib.hid hea2
                  clear hea2 hyv
                  go_wp2_with fail
                  go_roundg (n - (i' + 1))
                  case measure => omega
                  case rel => exact ⟨i' + 1, by omega, by omega, rfl, by go_num, Hea2.out, rfl⟩
                · have d4 : (y == xa) = false := by simp [hyv]
                  have Hfa : Hid (∀ h : i' < a.length, a[i'].v ≠ xa) := Lib.hid fun _ => by rw [HY.out]; exact hyv
                  clear hyv
                  go_wp2_with fail
                  go_loopg [7] (n' - k) (fun gh sk wr2 => ∃ k' : Nat, k ≤ k' ∧ k' ≤ n' ∧ gh = n' - k' ∧ sk = .int .i64 k' ∧ (∀ j (h : j < b.length), k ≤ j → j < k' → b[j].v = xa) ∧ w1 = wr2)
                  case atStart => exact ⟨k, Nat.le_refl _, hk, rfl, rfl, fun j _ h1 h2 => absurd h1 (by omega), rfl⟩
                  case round =>
                    obtain ⟨k', hkk, hkl, rfl, rfl, heb, rfl⟩ := hrel
                    have Heb := Lib.hid heb
                    clear heb
                    by_cases hkn2 : k' < n'
                    · try (exfalso; omega)
                      all_goals
                        have d5 : decide (k' < n') = true := by simpa using hkn2
                        obtain ⟨b3, o3, q3, hb3, hc3⟩ := (Hy.out.below Hbel1.out).at_ (by omega)
                        cases q3
                        have hkb : k' < b.length := by omega
                        have z0 := (hc3 k' hkb).1
                        obtain ⟨z, hz⟩ : ∃ z, b[k'].v = z := ⟨_, rfl⟩
                        rw [hz] at z0
                        have Hz := Lib.hid hz
                        have l1 : (0 : Int) ≤ (k' : Int) := by omega
                        have l2 : (k' : Int) < n' := by omega
                        clear hc3 hz
                        by_cases hzv : z = xa
                        · have d6 : (z == xa) = true := by simp [hzv]
                          have heb2 : ∀ j (h : j < b.length), k ≤ j → j < k' + 1 → b[j].v = xa := fun j h h1 h2 => by
                            rcases Nat.lt_or_ge j k' with h' | h'
                            · exact Heb.out j h h1 h'
                            · have : j = k' := by omega
                              subst this
                              rw [Hz.out]; exact hzv
                          have Heb2 := Lib.hid heb2
                          clear heb2 hzv
                          go_wp2_with fail
                          go_roundg (n' - (k' + 1))
                          case measure => omega
                          case rel => exact ⟨k' + 1, by omega, by omega, rfl, by go_num, Heb2.out, rfl⟩
                        · have d6 : (z == xa) = false := by simp [hzv]
                          have Hfb : Hid (∀ h : k' < b.length, b[k'].v ≠ xa) := Lib.hid fun _ => by rw [Hz.out]; exact hzv
                          clear hzv
                          have hst := bothI_step Ha.out Hb.out HI.out hii (by omega) hkk (by omega) Hea.out Heb.out Hfa.out Hfb.out Hv.out Hla.out Hlb.out
                          obtain ⟨hI2, hmv⟩ := hst
                          have HI2 := Lib.hid hI2
                          clear hI2
                          go_wp2_with (at_builtin; go_must (refine wpList_append_one w w1 rfl (.tmp 82) (.tmp 84) 35 rfl w.heap.size 3 i0 _ 1 8 Try.underlying35 hi0 hz0 hz1 hz2 rfl (by omega) (.slice A1 m c1) m (O.map (Value.int .i64)) rfl [.int .i64 xa] rfl (by intro u hu; simp at hu; subst hu; rfl) rfl Ho1.out (by unfold maxLen; omega) (by omega) Hbel1.out Hbel1.out.size ?_); intro A9 c9 w9 ho9 hbel9 hg9 hz9)
                          go_roundg ((n - i') + (n' - k'))
                          case measure => omega
                          case rel => exact ⟨i', k', m + 1, A9, c9, O ++ [xa], by omega, by omega, rfl, rfl, rfl, rfl, by omega, by rw [List.map_append]; exact ho9, HI2.out, hbel9⟩
                    · have d5 : decide (k' < n') = false := by simpa using hkn2
                      have Hfb : Hid (∀ h : k' < b.length, b[k'].v ≠ xa) := Lib.hid fun h => absurd h (by omega)
                      have hst := bothI_step Ha.out Hb.out HI.out hii (by omega) hkk (by omega) Hea.out Heb.out Hfa.out Hfb.out Hv.out Hla.out Hlb.out
                      obtain ⟨hI2, hmv⟩ := hst
                      have HI2 := Lib.hid hI2
                      clear hI2
                      go_wp2_with (at_builtin; go_must (refine wpList_append_one w w1 rfl (.tmp 82) (.tmp 84) 35 rfl w.heap.size 3 i0 _ 1 8 Try.underlying35 hi0 hz0 hz1 hz2 rfl (by omega) (.slice A1 m c1) m (O.map (Value.int .i64)) rfl [.int .i64 xa] rfl (by intro u hu; simp at hu; subst hu; rfl) rfl Ho1.out (by unfold maxLen; omega) (by omega) Hbel1.out Hbel1.out.size ?_); intro A9 c9 w9 ho9 hbel9 hg9 hz9)
                      go_roundg ((n - i') + (n' - k'))
                      case measure => omega
                      case rel => exact ⟨i', k', m + 1, A9, c9, O ++ [xa], by omega, by omega, rfl, rfl, rfl, rfl, by omega, by rw [List.map_append]; exact ho9, HI2.out, hbel9⟩
            · have d3 : decide (i' < n) = false := by simpa using hin2
              have Hfa : Hid (∀ h : i' < a.length, a[i'].v ≠ xa) := Lib.hid fun h => absurd h (by omega)
              go_wp2_with fail
              go_loopg [7] (n' - k) (fun gh sk wr2 => ∃ k' : Nat, k ≤ k' ∧ k' ≤ n' ∧ gh = n' - k' ∧ sk = .int .i64 k' ∧ (∀ j (h : j < b.length), k ≤ j → j < k' → b[j].v = xa) ∧ w1 = wr2)
              case atStart => exact ⟨k, Nat.le_refl _, hk, rfl, rfl, fun j _ h1 h2 => absurd h1 (by omega), rfl⟩
              case round =>
                obtain ⟨k', hkk, hkl, rfl, rfl, heb, rfl⟩ := hrel
                have Heb := Lib.hid heb
                clear heb
                by_cases hkn2 : k' < n'
                · try (exfalso; omega)
                  all_goals
                    have d5 : decide (k' < n') = true := by simpa using hkn2
                    obtain ⟨b3, o3, q3, hb3, hc3⟩ := (Hy.out.below Hbel1.out).at_ (by omega)
                    cases q3
                    have hkb : k' < b.length := by omega
                    have z0 := (hc3 k' hkb).1
                    obtain ⟨z, hz⟩ : ∃ z, b[k'].v = z := ⟨_, rfl⟩
                    rw [hz] at z0
                    have Hz := Lib.hid hz
                    have l1 : (0 : Int) ≤ (k' : Int) := by omega
                    have l2 : (k' : Int) < n' := by omega
                    clear hc3 hz
                    by_cases hzv : z = xa
                    · have d6 : (z == xa) = true := by simp [hzv]
                      have heb2 : ∀ j (h : j < b.length), k ≤ j → j < k' + 1 → b[j].v = xa := fun j h h1 h2 => by
                        rcases Nat.lt_or_ge j k' with h' | h'
                        · exact Heb.out j h h1 h'
                        · have : j = k' := by omega
                          subst this
                          rw [Hz.out]; exact hzv
                      have Heb2 := Lib.hid heb2
                      clear heb2 hzv
                      go_wp2_with fail
                      go_roundg (n' - (k' + 1))
                      case measure => omega
                      case rel => exact ⟨k' + 1, by omega, by omega, rfl, by go_num, Heb2.out, rfl⟩
                    · have d6 : (z == xa) = false := by simp [hzv]
                      have Hfb : Hid (∀ h : k' < b.length, b[k'].v ≠ xa) := Lib.hid fun _ => by rw [Hz.out]; exact hzv
                      clear hzv
                      have hst := bothI_step Ha.out Hb.out HI.out hii (by omega) hkk (by omega) Hea.out Heb.out Hfa.out Hfb.out Hv.out Hla.out Hlb.out
                      obtain ⟨hI2, hmv⟩ := hst
                      have HI2 := Lib.hid hI2
                      clear hI2
                      go_wp2_with (at_builtin; go_must (refine wpList_append_one w w1 rfl (.tmp 82) (.tmp 84) 35 rfl w.heap.size 3 i0 _ 1 8 Try.underlying35 hi0 hz0 hz1 hz2 rfl (by omega) (.slice A1 m c1) m (O.map (Value.int .i64)) rfl [.int .i64 xa] rfl (by intro u hu; simp at hu; subst hu; rfl) rfl Ho1.out (by unfold maxLen; omega) (by omega) Hbel1.out Hbel1.out.size ?_); intro A9 c9 w9 ho9 hbel9 hg9 hz9)
                      go_roundg ((n - i') + (n' - k'))
                      case measure => omega
                      case rel => exact ⟨i', k', m + 1, A9, c9, O ++ [xa], by omega, by omega, rfl, rfl, rfl, rfl, by omega, by rw [List.map_append]; exact ho9, HI2.out, hbel9⟩
                · have d5 : decide (k' < n') = false := by simpa using hkn2
                  have Hfb : Hid (∀ h : k' < b.length, b[k'].v ≠ xa) := Lib.hid fun h => absurd h (by omega)
                  have hst := bothI_step Ha.out Hb.out HI.out hii (by omega) hkk (by omega) Hea.out Heb.out Hfa.out Hfb.out Hv.out Hla.out Hlb.out
                  obtain ⟨hI2, hmv⟩ := hst
                  have HI2 := Lib.hid hI2
                  clear hI2
                  go_wp2_with (at_builtin; go_must (refine wpList_append_one w w1 rfl (.tmp 82) (.tmp 84) 35 rfl w.heap.size 3 i0 _ 1 8 Try.underlying35 hi0 hz0 hz1 hz2 rfl (by omega) (.slice A1 m c1) m (O.map (Value.int .i64)) rfl [.int .i64 xa] rfl (by intro u hu; simp at hu; subst hu; rfl) rfl Ho1.out (by unfold maxLen; omega) (by omega) Hbel1.out Hbel1.out.size ?_); intro A9 c9 w9 ho9 hbel9 hg9 hz9)
                  go_roundg ((n - i') + (n' - k'))
                  case measure => omega
                  case rel => exact ⟨i', k', m + 1, A9, c9, O ++ [xa], by omega, by omega, rfl, rfl, rfl, rfl, by omega, by rw [List.map_append]; exact ho9, HI2.out, hbel9⟩
        · have dl : decide (xa ≤ xb) = false := by simpa using hle
          have Hv : Hid ((∃ h : i < a.length, a[i].v = xb) ∨ (∃ h : k < b.length, b[k].v = xb)) := Lib.hid (.inr ⟨hbl2, hxb⟩)
          have Hla : Hid (∀ h : i < a.length, xb ≤ a[i].v) := Lib.hid fun _ => by rw [hxa]; omega
          have Hlb : Hid (∀ h : k < b.length, xb ≤ b[k].v) := Lib.hid fun _ => by rw [hxb]; exact Int.le_refl _
          clear hxa hxb hle
          go_wp2_with fail
          go_quiet (fail)
          go_wp2_with fail
          have hbq := below_drewN_t (Below.refl wr.heap.size wr) nq
          obtain ⟨w1, hw1⟩ : ∃ w1, wr.drewN nq = w1 := ⟨_, rfl⟩
          rw [hw1] at hbq ⊢
          have Ho1 := Lib.hid (ownsRow_beyond Ho.out hbq)
          have Hbel1 := Lib.hid (Hbel.out.trans (hbq.mono Hbel.out.size))
          clear hbq hw1
          try clear ea
          try clear eb
          go_loopg [6] (n - i) (fun gh si wr2 => ∃ i' : Nat, i ≤ i' ∧ i' ≤ n ∧ gh = n - i' ∧ si = .int .i64 i' ∧ (∀ j (h : j < a.length), i ≤ j → j < i' → a[j].v = xb) ∧ w1 = wr2)
          case atStart => exact ⟨i, Nat.le_refl _, hi, rfl, rfl, fun j _ h1 h2 => absurd h1 (by omega), rfl⟩
          case round =>
            obtain ⟨i', hii, hil, rfl, rfl, hea, rfl⟩ := hrel
            have Hea := Lib.hid hea
            clear hea
            by_cases hin2 : i' < n
            · try (exfalso; omega)
              all_goals
                have d3 : decide (i' < n) = true := by simpa using hin2
                obtain ⟨b2, o2, q2, hb2, hc2⟩ := (Hx.out.below Hbel1.out).at_ (by omega)
                cases q2
                have hia : i' < a.length := by omega
                have y0 := (hc2 i' hia).1
                obtain ⟨y, hy⟩ : ∃ y, a[i'].v = y := ⟨_, rfl⟩
                rw [hy] at y0
                have HY := Lib.hid hy
                have j1 : (0 : Int) ≤ (i' : Int) := by omega
                have j2 : (i' : Int) < n := by omega
                clear hc2 hy
                by_cases hyv : y = xb
                · have d4 : (y == xb) = true := by simp [hyv]
                  have hea2 : ∀ j (h : j < a.length), i ≤ j → j < i' + 1 → a[j].v = xb := fun j h h1 h2 => by
                    rcases Nat.lt_or_ge j i' with h' | h'
                    · exact Hea.out j h h1 h'
                    · have : j = i' := by omega
                      subst this
                      rw [HY.out]; exact hyv
                  have Hea2 := Lib.hid hea2
                  clear hea2 hyv
                  go_wp2_with fail
                  go_roundg (n - (i' + 1))
                  case measure => omega
                  case rel => exact ⟨i' + 1, by omega, by omega, rfl, by go_num, Hea2.out, rfl⟩
                · have d4 : (y == xb) = false := by simp [hyv]
                  have Hfa : Hid (∀ h : i' < a.length, a[i'].v ≠ xb) := Lib.hid fun _ => by rw [HY.out]; exact hyv
                  clear hyv
                  go_wp2_with fail
                  go_loopg [7] (n' - k) (fun gh sk wr2 => ∃ k' : Nat, k ≤ k' ∧ k' ≤ n' ∧ gh = n' - k' ∧ sk = .int .i64 k' ∧ (∀ j (h : j < b.length), k ≤ j → j < k' → b[j].v = xb) ∧ w1 = wr2)
                  case atStart => exact ⟨k, Nat.le_refl _, hk, rfl, rfl, fun j _ h1 h2 => absurd h1 (by omega), rfl⟩
                  case round =>
                    obtain ⟨k', hkk, hkl, rfl, rfl, heb, rfl⟩ := hrel
                    have Heb := Lib.hid heb
                    clear heb
                    by_cases hkn2 : k' < n'
                    · try (exfalso; omega)
                      all_goals
                        have d5 : decide (k' < n') = true := by simpa using hkn2
                        obtain ⟨b3, o3, q3, hb3, hc3⟩ := (Hy.out.below Hbel1.out).at_ (by omega)
                        cases q3
                        have hkb : k' < b.length := by omega
                        have z0 := (hc3 k' hkb).1
                        obtain ⟨z, hz⟩ : ∃ z, b[k'].v = z := ⟨_, rfl⟩
                        rw [hz] at z0
                        have Hz := Lib.hid hz
                        have l1 : (0 : Int) ≤ (k' : Int) := by omega
                        have l2 : (k' : Int) < n' := by omega
                        clear hc3 hz
                        by_cases hzv : z = xb
                        · have d6 : (z == xb) = true := by simp [hzv]
                          have heb2 : ∀ j (h : j < b.length), k ≤ j → j < k' + 1 → b[j].v = xb := fun j h h1 h2 => by
                            rcases Nat.lt_or_ge j k' with h' | h'
                            · exact Heb.out j h h1 h'
                            · have : j = k' := by omega
                              subst this
                              rw [Hz.out]; exact hzv
                          have Heb2 := Lib.hid heb2
                          clear heb2 hzv
                          go_wp2_with fail
                          go_roundg (n' - (k' + 1))
                          case measure => omega
                          case rel => exact ⟨k' + 1, by omega, by omega, rfl, by go_num, Heb2.out, rfl⟩
                        · have d6 : (z == xb) = false := by simp [hzv]
                          have Hfb : Hid (∀ h : k' < b.length, b[k'].v ≠ xb) := Lib.hid fun _ => by rw [Hz.out]; exact hzv
                          clear hzv
                          have hst := bothI_step Ha.out Hb.out HI.out hii (by omega) hkk (by omega) Hea.out Heb.out Hfa.out Hfb.out Hv.out Hla.out Hlb.out
                          obtain ⟨hI2, hmv⟩ := hst
                          have HI2 := Lib.hid hI2
                          clear hI2
                          go_wp2_with (at_builtin; go_must (refine wpList_append_one w w1 rfl (.tmp 82) (.tmp 84) 35 rfl w.heap.size 3 i0 _ 1 8 Try.underlying35 hi0 hz0 hz1 hz2 rfl (by omega) (.slice A1 m c1) m (O.map (Value.int .i64)) rfl [.int .i64 xb] rfl (by intro u hu; simp at hu; subst hu; rfl) rfl Ho1.out (by unfold maxLen; omega) (by omega) Hbel1.out Hbel1.out.size ?_); intro A9 c9 w9 ho9 hbel9 hg9 hz9)
                          go_roundg ((n - i') + (n' - k'))
                          case measure => omega
                          case rel => exact ⟨i', k', m + 1, A9, c9, O ++ [xb], by omega, by omega, rfl, rfl, rfl, rfl, by omega, by rw [List.map_append]; exact ho9, HI2.out, hbel9⟩
                    · have d5 : decide (k' < n') = false := by simpa using hkn2
                      have Hfb : Hid (∀ h : k' < b.length, b[k'].v ≠ xb) := Lib.hid fun h => absurd h (by omega)
                      have hst := bothI_step Ha.out Hb.out HI.out hii (by omega) hkk (by omega) Hea.out Heb.out Hfa.out Hfb.out Hv.out Hla.out Hlb.out
                      obtain ⟨hI2, hmv⟩ := hst
                      have HI2 := Lib.hid hI2
                      clear hI2
                      go_wp2_with (at_builtin; go_must (refine wpList_append_one w w1 rfl (.tmp 82) (.tmp 84) 35 rfl w.heap.size 3 i0 _ 1 8 Try.underlying35 hi0 hz0 hz1 hz2 rfl (by omega) (.slice A1 m c1) m (O.map (Value.int .i64)) rfl [.int .i64 xb] rfl (by intro u hu; simp at hu; subst hu; rfl) rfl Ho1.out (by unfold maxLen; omega) (by omega) Hbel1.out Hbel1.out.size ?_); intro A9 c9 w9 ho9 hbel9 hg9 hz9)
                      go_roundg ((n - i') + (n' - k'))
                      case measure => omega
                      case rel => exact ⟨i', k', m + 1, A9, c9, O ++ [xb], by omega, by omega, rfl, rfl, rfl, rfl, by omega, by rw [List.map_append]; exact ho9, HI2.out, hbel9⟩
            · have d3 : decide (i' < n) = false := by simpa using hin2
              have Hfa : Hid (∀ h : i' < a.length, a[i'].v ≠ xb) := Lib.hid fun h => absurd h (by omega)
              go_wp2_with fail
              go_loopg [7] (n' - k) (fun gh sk wr2 => ∃ k' : Nat, k ≤ k' ∧ k' ≤ n' ∧ gh = n' - k' ∧ sk = .int .i64 k' ∧ (∀ j (h : j < b.length), k ≤ j → j < k' → b[j].v = xb) ∧ w1 = wr2)
              case atStart => exact ⟨k, Nat.le_refl _, hk, rfl, rfl, fun j _ h1 h2 => absurd h1 (by omega), rfl⟩
              case round =>
                obtain ⟨k', hkk, hkl, rfl, rfl, heb, rfl⟩ := hrel
                have Heb := Lib.hid heb
                clear heb
                by_cases hkn2 : k' < n'
                · try (exfalso; omega)
                  all_goals
                    have d5 : decide (k' < n') = true := by simpa using hkn2
                    obtain ⟨b3, o3, q3, hb3, hc3⟩ := (Hy.out.below Hbel1.out).at_ (by omega)
                    cases q3
                    have hkb : k' < b.length := by omega
                    have z0 := (hc3 k' hkb).1
                    obtain ⟨z, hz⟩ : ∃ z, b[k'].v = z := ⟨_, rfl⟩
                    rw [hz] at z0
                    have Hz := Lib.hid hz
                    have l1 : (0 : Int) ≤ (k' : Int) := by omega
                    have l2 : (k' : Int) < n' := by omega
                    clear hc3 hz
                    by_cases hzv : z = xb
                    · have d6 : (z == xb) = true := by simp [hzv]
                      have heb2 : ∀ j (h : j < b.length), k ≤ j → j < k' + 1 → b[j].v = xb := fun j h h1 h2 => by
                        rcases Nat.lt_or_ge j k' with h' | h'
                        · exact Heb.out j h h1 h'
                        · have : j = k' := by omega
                          subst this
                          rw [Hz.out]; exact hzv
                      have Heb2 := Lib.hid heb2
                      clear heb2 hzv
                      go_wp2_with fail
                      go_roundg (n' - (k' + 1))
                      case measure => omega
                      case rel => exact ⟨k' + 1, by omega, by omega, rfl, by go_num, Heb2.out, rfl⟩
                    · have d6 : (z == xb) = false := by simp [hzv]
                      have Hfb : Hid (∀ h : k' < b.length, b[k'].v ≠ xb) := Lib.hid fun _ => by rw [Hz.out]; exact hzv
                      clear hzv
                      have hst := bothI_step Ha.out Hb.out HI.out hii (by omega) hkk (by omega) Hea.out Heb.out Hfa.out Hfb.out Hv.out Hla.out Hlb.out
                      obtain ⟨hI2, hmv⟩ := hst
                      have HI2 := Lib.hid hI2
                      clear hI2
                      go_wp2_with (at_builtin; go_must (refine wpList_append_one w w1 rfl (.tmp 82) (.tmp 84) 35 rfl w.heap.size 3 i0 _ 1 8 Try.underlying35 hi0 hz0 hz1 hz2 rfl (by omega) (.slice A1 m c1) m (O.map (Value.int .i64)) rfl [.int .i64 xb] rfl (by intro u hu; simp at hu; subst hu; rfl) rfl Ho1.out (by unfold maxLen; omega) (by omega) Hbel1.out Hbel1.out.size ?_); intro A9 c9 w9 ho9 hbel9 hg9 hz9)
                      go_roundg ((n - i') + (n' - k'))
                      case measure => omega
                      case rel => exact ⟨i', k', m + 1, A9, c9, O ++ [xb], by omega, by omega, rfl, rfl, rfl, rfl, by omega, by rw [List.map_append]; exact ho9, HI2.out, hbel9⟩
                · have d5 : decide (k' < n') = false := by simpa using hkn2
                  have Hfb : Hid (∀ h : k' < b.length, b[k'].v ≠ xb) := Lib.hid fun h => absurd h (by omega)
                  have hst := bothI_step Ha.out Hb.out HI.out hii (by omega) hkk (by omega) Hea.out Heb.out Hfa.out Hfb.out Hv.out Hla.out Hlb.out
                  obtain ⟨hI2, hmv⟩ := hst
                  have HI2 := Lib.hid hI2
                  clear hI2
                  go_wp2_with (at_builtin; go_must (refine wpList_append_one w w1 rfl (.tmp 82) (.tmp 84) 35 rfl w.heap.size 3 i0 _ 1 8 Try.underlying35 hi0 hz0 hz1 hz2 rfl (by omega) (.slice A1 m c1) m (O.map (Value.int .i64)) rfl [.int .i64 xb] rfl (by intro u hu; simp at hu; subst hu; rfl) rfl Ho1.out (by unfold maxLen; omega) (by omega) Hbel1.out Hbel1.out.size ?_); intro A9 c9 w9 ho9 hbel9 hg9 hz9)
                  go_roundg ((n - i') + (n' - k'))
                  case measure => omega
                  case rel => exact ⟨i', k', m + 1, A9, c9, O ++ [xb], by omega, by omega, rfl, rfl, rfl, rfl, by omega, by rw [List.map_append]; exact ho9, HI2.out, hbel9⟩
      · have dk : decide (n' ≤ k) = true := by simp; omega
        have Hv : Hid ((∃ h : i < a.length, a[i].v = xa) ∨ (∃ h : k < b.length, b[k].v = xa)) := Lib.hid (.inl ⟨hal2, hxa⟩)
        have Hla : Hid (∀ h : i < a.length, xa ≤ a[i].v) := Lib.hid fun _ => by rw [hxa]; exact Int.le_refl _
        have Hlb : Hid (∀ h : k < b.length, xa ≤ b[k].v) := Lib.hid fun h => absurd h (by omega)
        clear hxa
        go_wp2_with fail
        go_quiet (fail)
        go_wp2_with fail
        have hbq := below_drewN_t (Below.refl wr.heap.size wr) nq
        obtain ⟨w1, hw1⟩ : ∃ w1, wr.drewN nq = w1 := ⟨_, rfl⟩
        rw [hw1] at hbq ⊢
        have Ho1 := Lib.hid (ownsRow_beyond Ho.out hbq)
        have Hbel1 := Lib.hid (Hbel.out.trans (hbq.mono Hbel.out.size))
        clear hbq hw1
        try clear ea
        try clear eb
        go_loopg [6] (n - i) (fun gh si wr2 => ∃ i' : Nat, i ≤ i' ∧ i' ≤ n ∧ gh = n - i' ∧ si = .int .i64 i' ∧ (∀ j (h : j < a.length), i ≤ j → j < i' → a[j].v = xa) ∧ w1 = wr2)
        case atStart => exact ⟨i, Nat.le_refl _, hi, rfl, rfl, fun j _ h1 h2 => absurd h1 (by omega), rfl⟩
        case round =>
          obtain ⟨i', hii, hil, rfl, rfl, hea, rfl⟩ := hrel
          have Hea := Lib.hid hea
          clear hea
          by_cases hin2 : i' < n
          · try (exfalso; omega)
            all_goals
              have d3 : decide (i' < n) = true := by simpa using hin2
              obtain ⟨b2, o2, q2, hb2, hc2⟩ := (Hx.out.below Hbel1.out).at_ (by omega)
              cases q2
              have hia : i' < a.length := by omega
              have y0 := (hc2 i' hia).1
              obtain ⟨y, hy⟩ : ∃ y, a[i'].v = y := ⟨_, rfl⟩
              rw [hy] at y0
              have HY := Lib.hid hy
              have j1 : (0 : Int) ≤ (i' : Int) := by omega
              have j2 : (i' : Int) < n := by omega
              clear hc2 hy
              by_cases hyv : y = xa
              · have d4 : (y == xa) = true := by simp [hyv]
                have hea2 : ∀ j (h : j < a.length), i ≤ j → j < i' + 1 → a[j].v = xa := fun j h h1 h2 => by
                  rcases Nat.lt_or_ge j i' with h' | h'
                  · exact Hea.out j h h1 h'
                  · have : j = i' := by omega
                    subst this
                    rw [HY.out]; exact hyv
                have Hea2 := Lib.hid hea2
                clear hea2 hyv
                go_wp2_with fail
                go_roundg (n - (i' + 1))
                case measure => omega
                case rel => exact ⟨i' + 1, by omega, by omega, rfl, by go_num, Hea2.out, rfl⟩
              · have d4 : (y == xa) = false := by simp [hyv]
                have Hfa : Hid (∀ h : i' < a.length, a[i'].v ≠ xa) := Lib.hid fun _ => by rw [HY.out]; exact hyv
                clear hyv
                go_wp2_with fail
                go_loopg [7] (n' - k) (fun gh sk wr2 => ∃ k' : Nat, k ≤ k' ∧ k' ≤ n' ∧ gh = n' - k' ∧ sk = .int .i64 k' ∧ (∀ j (h : j < b.length), k ≤ j → j < k' → b[j].v = xa) ∧ w1 = wr2)
                case atStart => exact ⟨k, Nat.le_refl _, hk, rfl, rfl, fun j _ h1 h2 => absurd h1 (by omega), rfl⟩
                case round =>
                  obtain ⟨k', hkk, hkl, rfl, rfl, heb, rfl⟩ := hrel
                  have Heb := Lib.hid heb
                  clear heb
                  by_cases hkn2 : k' < n'
                  · try (exfalso; omega)
                    all_goals
                      have d5 : decide (k' < n') = true := by simpa using hkn2
                      obtain ⟨b3, o3, q3, hb3, hc3⟩ := (Hy.out.below Hbel1.out).at_ (by omega)
                      cases q3
                      have hkb : k' < b.length := by omega
                      have z0 := (hc3 k' hkb).1
                      obtain ⟨z, hz⟩ : ∃ z, b[k'].v = z := ⟨_, rfl⟩
                      rw [hz] at z0
                      have Hz := Lib.hid hz
                      have l1 : (0 : Int) ≤ (k' : Int) := by omega
                      have l2 : (k' : Int) < n' := by omega
                      clear hc3 hz
                      by_cases hzv : z = xa
                      · have d6 : (z == xa) = true := by simp [hzv]
                        have heb2 : ∀ j (h : j < b.length), k ≤ j → j < k' + 1 → b[j].v = xa := fun j h h1 h2 => by
                          rcases Nat.lt_or_ge j k' with h' | h'
                          · exact Heb.out j h h1 h'
                          · have : j = k' := by omega
                            subst this
                            rw [Hz.out]; exact hzv
                        have Heb2 := Lib.hid heb2
                        clear heb2 hzv
                        go_wp2_with fail
                        go_roundg (n' - (k' + 1))
                        case measure => omega
                        case rel => exact ⟨k' + 1, by omega, by omega, rfl, by go_num, Heb2.out, rfl⟩
                      · have d6 : (z == xa) = false := by simp [hzv]
                        have Hfb : Hid (∀ h : k' < b.length, b[k'].v ≠ xa) := Lib.hid fun _ => by rw [Hz.out]; exact hzv
                        clear hzv
                        have hst := bothI_step Ha.out Hb.out HI.out hii (by omega) hkk (by omega) Hea.out Heb.out Hfa.out Hfb.out Hv.out Hla.out Hlb.out
                        obtain ⟨hI2, hmv⟩ := hst
                        have HI2 := Lib.hid hI2
                        clear hI2
                        go_wp2_with (at_builtin; go_must (refine wpList_append_one w w1 rfl (.tmp 82) (.tmp 84) 35 rfl w.heap.size 3 i0 _ 1 8 Try.underlying35 hi0 hz0 hz1 hz2 rfl (by omega) (.slice A1 m c1) m (O.map (Value.int .i64)) rfl [.int .i64 xa] rfl (by intro u hu; simp at hu; subst hu; rfl) rfl Ho1.out (by unfold maxLen; omega) (by omega) Hbel1.out Hbel1.out.size ?_); intro A9 c9 w9 ho9 hbel9 hg9 hz9)
                        go_roundg ((n - i') + (n' - k'))
                        case measure => omega
                        case rel => exact ⟨i', k', m + 1, A9, c9, O ++ [xa], by omega, by omega, rfl, rfl, rfl, rfl, by omega, by rw [List.map_append]; exact ho9, HI2.out, hbel9⟩
                  · have d5 : decide (k' < n') = false := by simpa using hkn2
                    have Hfb : Hid (∀ h : k' < b.length, b[k'].v ≠ xa) := Lib.hid fun h => absurd h (by omega)
                    have hst := bothI_step Ha.out Hb.out HI.out hii (by omega) hkk (by omega) Hea.out Heb.out Hfa.out Hfb.out Hv.out Hla.out Hlb.out
                    obtain ⟨hI2, hmv⟩ := hst
                    have HI2 := Lib.hid hI2
                    clear hI2
                    go_wp2_with (at_builtin; go_must (refine wpList_append_one w w1 rfl (.tmp 82) (.tmp 84) 35 rfl w.heap.size 3 i0 _ 1 8 Try.underlying35 hi0 hz0 hz1 hz2 rfl (by omega) (.slice A1 m c1) m (O.map (Value.int .i64)) rfl [.int .i64 xa] rfl (by intro u hu; simp at hu; subst hu; rfl) rfl Ho1.out (by unfold maxLen; omega) (by omega) Hbel1.out Hbel1.out.size ?_); intro A9 c9 w9 ho9 hbel9 hg9 hz9)
                    go_roundg ((n - i') + (n' - k'))
                    case measure => omega
                    case rel => exact ⟨i', k', m + 1, A9, c9, O ++ [xa], by omega, by omega, rfl, rfl, rfl, rfl, by omega, by rw [List.map_append]; exact ho9, HI2.out, hbel9⟩
          · have d3 : decide (i' < n) = false := by simpa using hin2
            have Hfa : Hid (∀ h : i' < a.length, a[i'].v ≠ xa) := Lib.hid fun h => absurd h (by omega)
            go_wp2_with fail
            go_loopg [7] (n' - k) (fun gh sk wr2 => ∃ k' : Nat, k ≤ k' ∧ k' ≤ n' ∧ gh = n' - k' ∧ sk = .int .i64 k' ∧ (∀ j (h : j < b.length), k ≤ j → j < k' → b[j].v = xa) ∧ w1 = wr2)
            case atStart => exact ⟨k, Nat.le_refl _, hk, rfl, rfl, fun j _ h1 h2 => absurd h1 (by omega), rfl⟩
            case round =>
              obtain ⟨k', hkk, hkl, rfl, rfl, heb, rfl⟩ := hrel
              have Heb := Lib.hid heb
              clear heb
              by_cases hkn2 : k' < n'
              · try (exfalso; omega)
                all_goals
                  have d5 : decide (k' < n') = true := by simpa using hkn2
                  obtain ⟨b3, o3, q3, hb3, hc3⟩ := (Hy.out.below Hbel1.out).at_ (by omega)
                  cases q3
                  have hkb : k' < b.length := by omega
                  have z0 := (hc3 k' hkb).1
                  obtain ⟨z, hz⟩ : ∃ z, b[k'].v = z := ⟨_, rfl⟩
                  rw [hz] at z0
                  have Hz := Lib.hid hz
                  have l1 : (0 : Int) ≤ (k' : Int) := by omega
                  have l2 : (k' : Int) < n' := by omega
                  clear hc3 hz
                  by_cases hzv : z = xa
                  · have d6 : (z == xa) = true := by simp [hzv]
                    have heb2 : ∀ j (h : j < b.length), k ≤ j → j < k' + 1 → b[j].v = xa := fun j h h1 h2 => by
                      rcases Nat.lt_or_ge j k' with h' | h'
                      · exact Heb.out j h h1 h'
                      · have : j = k' := by omega
                        subst this
                        rw [Hz.out]; exact hzv
                    have Heb2 := Lib.hid heb2
                    clear heb2 hzv
                    go_wp2_with fail
                    go_roundg (n' - (k' + 1))
                    case measure => omega
                    case rel => exact ⟨k' + 1, by omega, by omega, rfl, by go_num, Heb2.out, rfl⟩
                  · have d6 : (z == xa) = false := by simp [hzv]
                    have Hfb : Hid (∀ h : k' < b.length, b[k'].v ≠ xa) := Lib.hid fun _ => by rw [Hz.out]; exact hzv
                    clear hzv
                    have hst := bothI_step Ha.out Hb.out HI.out hii (by omega) hkk (by omega) Hea.out Heb.out Hfa.out Hfb.out Hv.out Hla.out Hlb.out
                    obtain ⟨hI2, hmv⟩ := hst
                    have HI2 := Lib.hid hI2
                    clear hI2
                    go_wp2_with (at_builtin; go_must (refine wpList_append_one w w1 rfl (.tmp 82) (.tmp 84) 35 rfl w.heap.size 3 i0 _ 1 8 Try.underlying35 hi0 hz0 hz1 hz2 rfl (by omega) (.slice A1 m c1) m (O.map (Value.int .i64)) rfl [.int .i64 xa] rfl (by intro u hu; simp at hu; subst hu; rfl) rfl Ho1.out (by unfold maxLen; omega) (by omega) Hbel1.out Hbel1.out.size ?_); intro A9 c9 w9 ho9 hbel9 hg9 hz9)
                    go_roundg ((n - i') + (n' - k'))
                    case measure => omega
                    case rel => exact ⟨i', k', m + 1, A9, c9, O ++ [xa], by omega, by omega, rfl, rfl, rfl, rfl, by omega, by rw [List.map_append]; exact ho9, HI2.out, hbel9⟩
              · have d5 : decide (k' < n') = false := by simpa using hkn2
                have Hfb : Hid (∀ h : k' < b.length, b[k'].v ≠ xa) := Lib.hid fun h => absurd h (by omega)
                have hst := bothI_step Ha.out Hb.out HI.out hii (by omega) hkk (by omega) Hea.out Heb.out Hfa.out Hfb.out Hv.out Hla.out Hlb.out
                obtain ⟨hI2, hmv⟩ := hst
                have HI2 := Lib.hid hI2
                clear hI2
                go_wp2_with (at_builtin; go_must (refine wpList_append_one w w1 rfl (.tmp 82) (.tmp 84) 35 rfl w.heap.size 3 i0 _ 1 8 Try.underlying35 hi0 hz0 hz1 hz2 rfl (by omega) (.slice A1 m c1) m (O.map (Value.int .i64)) rfl [.int .i64 xa] rfl (by intro u hu; simp at hu; subst hu; rfl) rfl Ho1.out (by unfold maxLen; omega) (by omega) Hbel1.out Hbel1.out.size ?_); intro A9 c9 w9 ho9 hbel9 hg9 hz9)
                go_roundg ((n - i') + (n' - k'))
                case measure => omega
                case rel => exact ⟨i', k', m + 1, A9, c9, O ++ [xa], by omega, by omega, rfl, rfl, rfl, rfl, by omega, by rw [List.map_append]; exact ho9, HI2.out, hbel9⟩
    · have di : decide (i < n) = false := by simpa using hin
      by_cases hkn : k < n'
      · have dk : decide (n' ≤ k) = false := by simpa using hkn
        have dk2 : decide (k < n') = true := by simpa using hkn
        obtain ⟨bb, ob, xb, rfl, eb, hbl2, hxb⟩ := Hcb.out hkn
        have kk2 : (k : Int) < n' := by omega
        have Hv : Hid ((∃ h : i < a.length, a[i].v = xb) ∨ (∃ h : k < b.length, b[k].v = xb)) := Lib.hid (.inr ⟨hbl2, hxb⟩)
        have Hla : Hid (∀ h : i < a.length, xb ≤ a[i].v) := Lib.hid fun h => absurd h (by omega)
        have Hlb : Hid (∀ h : k < b.length, xb ≤ b[k].v) := Lib.hid fun _ => by rw [hxb]; exact Int.le_refl _
        clear hxb
        go_wp2_with fail
        go_quiet (fail)
        go_wp2_with fail
        have hbq := below_drewN_t (Below.refl wr.heap.size wr) nq
        obtain ⟨w1, hw1⟩ : ∃ w1, wr.drewN nq = w1 := ⟨_, rfl⟩
        rw [hw1] at hbq ⊢
        have Ho1 := Lib.hid (ownsRow_beyond Ho.out hbq)
        have Hbel1 := Lib.hid (Hbel.out.trans (hbq.mono Hbel.out.size))
        clear hbq hw1
        try clear ea
        try clear eb
        go_loopg [6] (n - i) (fun gh si wr2 => ∃ i' : Nat, i ≤ i' ∧ i' ≤ n ∧ gh = n - i' ∧ si = .int .i64 i' ∧ (∀ j (h : j < a.length), i ≤ j → j < i' → a[j].v = xb) ∧ w1 = wr2)
        case atStart => exact ⟨i, Nat.le_refl _, hi, rfl, rfl, fun j _ h1 h2 => absurd h1 (by omega), rfl⟩
        case round =>
          obtain ⟨i', hii, hil, rfl, rfl, hea, rfl⟩ := hrel
          have Hea := Lib.hid hea
          clear hea
          by_cases hin2 : i' < n
          · try (exfalso; omega)
            all_goals
              have d3 : decide (i' < n) = true := by simpa using hin2
              obtain ⟨b2, o2, q2, hb2, hc2⟩ := (Hx.out.below Hbel1.out).at_ (by omega)
              cases q2
              have hia : i' < a.length := by omega
              have y0 := (hc2 i' hia).1
              obtain ⟨y, hy⟩ : ∃ y, a[i'].v = y := ⟨_, rfl⟩
              rw [hy] at y0
              have HY := Lib.hid hy
              have j1 : (0 : Int) ≤ (i' : Int) := by omega
              have j2 : (i' : Int) < n := by omega
              clear hc2 hy
              by_cases hyv : y = xb
              · have d4 : (y == xb) = true := by simp [hyv]
                have hea2 : ∀ j (h : j < a.length), i ≤ j → j < i' + 1 → a[j].v = xb := fun j h h1 h2 => by
                  rcases Nat.lt_or_ge j i' with h' | h'
                  · exact Hea.out j h h1 h'
                  · have : j = i' := by omega
                    subst this
                    rw [HY.out]; exact hyv
                have Hea2 := Lib.hid hea2
                clear hea2 hyv
                go_wp2_with fail
                go_roundg (n - (i' + 1))
                case measure => omega
                case rel => exact ⟨i' + 1, by omega, by omega, rfl, by go_num, Hea2.out, rfl⟩
              · have d4 : (y == xb) = false := by simp [hyv]
                have Hfa : Hid (∀ h : i' < a.length, a[i'].v ≠ xb) := Lib.hid fun _ => by rw [HY.out]; exact hyv
                clear hyv
                go_wp2_with fail
                go_loopg [7] (n' - k) (fun gh sk wr2 => ∃ k' : Nat, k ≤ k' ∧ k' ≤ n' ∧ gh = n' - k' ∧ sk = .int .i64 k' ∧ (∀ j (h : j < b.length), k ≤ j → j < k' → b[j].v = xb) ∧ w1 = wr2)
                case atStart => exact ⟨k, Nat.le_refl _, hk, rfl, rfl, fun j _ h1 h2 => absurd h1 (by omega), rfl⟩
                case round =>
                  obtain ⟨k', hkk, hkl, rfl, rfl, heb, rfl⟩ := hrel
                  have Heb := Lib.hid heb
                  clear heb
                  by_cases hkn2 : k' < n'
                  · try (exfalso; omega)
                    all_goals
                      have d5 : decide (k' < n') = true := by simpa using hkn2
                      obtain ⟨b3, o3, q3, hb3, hc3⟩ := (Hy.out.below Hbel1.out).at_ (by omega)
                      cases q3
                      have hkb : k' < b.length := by omega
                      have z0 := (hc3 k' hkb).1
                      obtain ⟨z, hz⟩ : ∃ z, b[k'].v = z := ⟨_, rfl⟩
                      rw [hz] at z0
                      have Hz := Lib.hid hz
                      have l1 : (0 : Int) ≤ (k' : Int) := by omega
                      have l2 : (k' : Int) < n' := by omega
                      clear hc3 hz
                      by_cases hzv : z = xb
                      · have d6 : (z == xb) = true := by simp [hzv]
                        have heb2 : ∀ j (h : j < b.length), k ≤ j → j < k' + 1 → b[j].v = xb := fun j h h1 h2 => by
                          rcases Nat.lt_or_ge j k' with h' | h'
                          · exact Heb.out j h h1 h'
                          · have : j = k' := by omega
                            subst this
                            rw [Hz.out]; exact hzv
                        have Heb2 := Lib.hid heb2
                        clear heb2 hzv
                        go_wp2_with fail
                        go_roundg (n' - (k' + 1))
                        case measure => omega
                        case rel => exact ⟨k' + 1, by omega, by omega, rfl, by go_num, Heb2.out, rfl⟩
                      · have d6 : (z == xb) = false := by simp [hzv]
                        have Hfb : Hid (∀ h : k' < b.length, b[k'].v ≠ xb) := Lib.hid fun _ => by rw [Hz.out]; exact hzv
                        clear hzv
                        have hst := bothI_step Ha.out Hb.out HI.out hii (by omega) hkk (by omega) Hea.out Heb.out Hfa.out Hfb.out Hv.out Hla.out Hlb.out
                        obtain ⟨hI2, hmv⟩ := hst
                        have HI2 := Lib.hid hI2
                        clear hI2
                        go_wp2_with (at_builtin; go_must (refine wpList_append_one w w1 rfl (.tmp 82) (.tmp 84) 35 rfl w.heap.size 3 i0 _ 1 8 Try.underlying35 hi0 hz0 hz1 hz2 rfl (by omega) (.slice A1 m c1) m (O.map (Value.int .i64)) rfl [.int .i64 xb] rfl (by intro u hu; simp at hu; subst hu; rfl) rfl Ho1.out (by unfold maxLen; omega) (by omega) Hbel1.out Hbel1.out.size ?_); intro A9 c9 w9 ho9 hbel9 hg9 hz9)
                        go_roundg ((n - i') + (n' - k'))
                        case measure => omega
                        case rel => exact ⟨i', k', m + 1, A9, c9, O ++ [xb], by omega, by omega, rfl, rfl, rfl, rfl, by omega, by rw [List.map_append]; exact ho9, HI2.out, hbel9⟩
                  · have d5 : decide (k' < n') = false := by simpa using hkn2
                    have Hfb : Hid (∀ h : k' < b.length, b[k'].v ≠ xb) := Lib.hid fun h => absurd h (by omega)
                    have hst := bothI_step Ha.out Hb.out HI.out hii (by omega) hkk (by omega) Hea.out Heb.out Hfa.out Hfb.out Hv.out Hla.out Hlb.out
                    obtain ⟨hI2, hmv⟩ := hst
                    have HI2 := Lib.hid hI2
                    clear hI2
                    go_wp2_with (at_builtin; go_must (refine wpList_append_one w w1 rfl (.tmp 82) (.tmp 84) 35 rfl w.heap.size 3 i0 _ 1 8 Try.underlying35 hi0 hz0 hz1 hz2 rfl (by omega) (.slice A1 m c1) m (O.map (Value.int .i64)) rfl [.int .i64 xb] rfl (by intro u hu; simp at hu; subst hu; rfl) rfl Ho1.out (by unfold maxLen; omega) (by omega) Hbel1.out Hbel1.out.size ?_); intro A9 c9 w9 ho9 hbel9 hg9 hz9)
                    go_roundg ((n - i') + (n' - k'))
                    case measure => omega
                    case rel => exact ⟨i', k', m + 1, A9, c9, O ++ [xb], by omega, by omega, rfl, rfl, rfl, rfl, by omega, by rw [List.map_append]; exact ho9, HI2.out, hbel9⟩
          · have d3 : decide (i' < n) = false := by simpa using hin2
            have Hfa : Hid (∀ h : i' < a.length, a[i'].v ≠ xb) := Lib.hid fun h => absurd h (by omega)
            go_wp2_with fail
            go_loopg [7] (n' - k) (fun gh sk wr2 => ∃ k' : Nat, k ≤ k' ∧ k' ≤ n' ∧ gh = n' - k' ∧ sk = .int .i64 k' ∧ (∀ j (h : j < b.length), k ≤ j → j < k' → b[j].v = xb) ∧ w1 = wr2)
            case atStart => exact ⟨k, Nat.le_refl _, hk, rfl, rfl, fun j _ h1 h2 => absurd h1 (by omega), rfl⟩
            case round =>
              obtain ⟨k', hkk, hkl, rfl, rfl, heb, rfl⟩ := hrel
              have Heb := Lib.hid heb
              clear heb
              by_cases hkn2 : k' < n'
              · try (exfalso; omega)
                all_goals
                  have d5 : decide (k' < n') = true := by simpa using hkn2
                  obtain ⟨b3, o3, q3, hb3, hc3⟩ := (Hy.out.below Hbel1.out).at_ (by omega)
                  cases q3
                  have hkb : k' < b.length := by omega
                  have z0 := (hc3 k' hkb).1
                  obtain ⟨z, hz⟩ : ∃ z, b[k'].v = z := ⟨_, rfl⟩
                  rw [hz] at z0
                  have Hz := Lib.hid hz
                  have l1 : (0 : Int) ≤ (k' : Int) := by omega
                  have l2 : (k' : Int) < n' := by omega
                  clear hc3 hz
                  by_cases hzv : z = xb
                  · have d6 : (z == xb) = true := by simp [hzv]
                    have heb2 : ∀ j (h : j < b.length), k ≤ j → j < k' + 1 → b[j].v = xb := fun j h h1 h2 => by
                      rcases Nat.lt_or_ge j k' with h' | h'
                      · exact Heb.out j h h1 h'
                      · have : j = k' := by omega
                        subst this
                        rw [Hz.out]; exact hzv
                    have Heb2 := Lib.hid heb2
                    clear heb2 hzv
                    go_wp2_with fail
                    go_roundg (n' - (k' + 1))
                    case measure => omega
                    case rel => exact ⟨k' + 1, by omega, by omega, rfl, by go_num, Heb2.out, rfl⟩
                  · have d6 : (z == xb) = false := by simp [hzv]
                    have Hfb : Hid (∀ h : k' < b.length, b[k'].v ≠ xb) := Lib.hid fun _ => by rw [Hz.out]; exact hzv
                    clear hzv
                    have hst := bothI_step Ha.out Hb.out HI.out hii (by omega) hkk (by omega) Hea.out Heb.out Hfa.out Hfb.out Hv.out Hla.out Hlb.out
                    obtain ⟨hI2, hmv⟩ := hst
                    have HI2 := Lib.hid hI2
                    clear hI2
                    go_wp2_with (at_builtin; go_must (refine wpList_append_one w w1 rfl (.tmp 82) (.tmp 84) 35 rfl w.heap.size 3 i0 _ 1 8 Try.underlying35 hi0 hz0 hz1 hz2 rfl (by omega) (.slice A1 m c1) m (O.map (Value.int .i64)) rfl [.int .i64 xb] rfl (by intro u hu; simp at hu; subst hu; rfl) rfl Ho1.out (by unfold maxLen; omega) (by omega) Hbel1.out Hbel1.out.size ?_); intro A9 c9 w9 ho9 hbel9 hg9 hz9)
                    go_roundg ((n - i') + (n' - k'))
                    case measure => omega
                    case rel => exact ⟨i', k', m + 1, A9, c9, O ++ [xb], by omega, by omega, rfl, rfl, rfl, rfl, by omega, by rw [List.map_append]; exact ho9, HI2.out, hbel9⟩
              · have d5 : decide (k' < n') = false := by simpa using hkn2
                have Hfb : Hid (∀ h : k' < b.length, b[k'].v ≠ xb) := Lib.hid fun h => absurd h (by omega)
                have hst := bothI_step Ha.out Hb.out HI.out hii (by omega) hkk (by omega) Hea.out Heb.out Hfa.out Hfb.out Hv.out Hla.out Hlb.out
                obtain ⟨hI2, hmv⟩ := hst
                have HI2 := Lib.hid hI2
                clear hI2
                go_wp2_with (at_builtin; go_must (refine wpList_append_one w w1 rfl (.tmp 82) (.tmp 84) 35 rfl w.heap.size 3 i0 _ 1 8 Try.underlying35 hi0 hz0 hz1 hz2 rfl (by omega) (.slice A1 m c1) m (O.map (Value.int .i64)) rfl [.int .i64 xb] rfl (by intro u hu; simp at hu; subst hu; rfl) rfl Ho1.out (by unfold maxLen; omega) (by omega) Hbel1.out Hbel1.out.size ?_); intro A9 c9 w9 ho9 hbel9 hg9 hz9)
                go_roundg ((n - i') + (n' - k'))
                case measure => omega
                case rel => exact ⟨i', k', m + 1, A9, c9, O ++ [xb], by omega, by omega, rfl, rfl, rfl, rfl, by omega, by rw [List.map_append]; exact ho9, HI2.out, hbel9⟩
      · have dk2 : decide (k < n') = false := by simpa using hkn
        have hO := bothI_end HI.out (by omega) (by omega)
        have hrd := RdI.of_own Ho.out
        rw [hO] at hrd
        have Hrd := Lib.hid hrd
        clear hO hrd
        go_wp2_with fail
        go_ret
        exact ⟨A1, m, c1, rfl, Hrd.out, Hbel.out⟩

end Go.Proofs.Ytimlbpjdgnapoaa
