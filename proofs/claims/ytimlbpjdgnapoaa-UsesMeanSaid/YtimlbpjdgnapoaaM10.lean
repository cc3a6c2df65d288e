/- Texts of this claim, laid one behind the other: UsesO, UsesP, LawV, LawW. -/
import Derived.Test.YtimlbpjdgnapoaaM9
import Derived.Deep.RegionHeld3
import Derived.Test.YtimlbpjdgnapoaaM8
/- usufructref17.both. -/
namespace Go.Proofs.Ytimlbpjdgnapoaa
set_option linter.unusedVariables false
set_option linter.unusedSimpArgs false
open Go.RowKit

/-- what both has gathered when i and k variables have been passed -/
structure BothI (a b : List UseD) (O : List Int) (i k : Nat) : Prop where
  rise : Rises O
  mem : ∀ x, x ∈ O ↔ x ∈ (a.take i).map (·.v) ∨ x ∈ (b.take k).map (·.v)
  la : ∀ o ∈ O, ∀ j (h : j < a.length), i ≤ j → o < a[j].v
  lb : ∀ o ∈ O, ∀ j (h : j < b.length), k ≤ j → o < b[j].v
theorem bothI_start (a b : List UseD) : BothI a b [] 0 0 := ⟨List.Pairwise.nil, fun x => by simp, fun o h => by simp at h, fun o h => by simp at h⟩
theorem bothI_end {a b : List UseD} {O : List Int} {i k : Nat} (h : BothI a b O i k) (hi : a.length ≤ i) (hk : b.length ≤ k) : O = sset (varsOf [a, b]) := by
  refine (sset_eq h.rise fun x => ?_).symm
  rw [h.mem, List.take_of_length_le hi, List.take_of_length_le hk]
  simp [varsOf]
theorem mem_take_more {a : List UseD} {i i' : Nat} {v : Int} (hii : i ≤ i') (hil : i' ≤ a.length) (he : ∀ j (h : j < a.length), i ≤ j → j < i' → a[j].v = v) (x : Int) :
    x ∈ (a.take i').map (·.v) ↔ x ∈ (a.take i).map (·.v) ∨ (i < i' ∧ x = v) := by
  constructor
  · intro hx
    obtain ⟨y, hy, rfl⟩ := List.mem_map.1 hx
    obtain ⟨j, hj, rfl⟩ := List.getElem_of_mem hy
    rw [List.length_take] at hj
    rw [List.getElem_take]
    rcases Nat.lt_or_ge j i with h | h
    · exact .inl (List.mem_map.2 ⟨_, List.mem_take_iff_getElem.2 ⟨j, by omega, rfl⟩, rfl⟩)
    · exact .inr ⟨by omega, he j (by omega) h (by omega)⟩
  · rintro (hx | ⟨h, rfl⟩)
    · obtain ⟨y, hy, rfl⟩ := List.mem_map.1 hx
      obtain ⟨j, hj, rfl⟩ := List.mem_take_iff_getElem.1 hy
      exact List.mem_map.2 ⟨_, List.mem_take_iff_getElem.2 ⟨j, by omega, rfl⟩, rfl⟩
    · exact List.mem_map.2 ⟨a[i]'(by omega), List.mem_take_iff_getElem.2 ⟨i, by omega, rfl⟩, he i (by omega) (Nat.le_refl _) h⟩
theorem bothI_step {a b : List UseD} (ha : Good a) (hb : Good b) {O : List Int} {i k i' k' : Nat} {v : Int} (h : BothI a b O i k)
    (hii : i ≤ i') (hil : i' ≤ a.length) (hkk : k ≤ k') (hkl : k' ≤ b.length) (hea : ∀ j (h : j < a.length), i ≤ j → j < i' → a[j].v = v) (heb : ∀ j (h : j < b.length), k ≤ j → j < k' → b[j].v = v)
    (hfa : ∀ h : i' < a.length, a[i'].v ≠ v) (hfb : ∀ h : k' < b.length, b[k'].v ≠ v)
    (hv : (∃ h : i < a.length, a[i].v = v) ∨ (∃ h : k < b.length, b[k].v = v)) (hla : ∀ h : i < a.length, v ≤ a[i].v) (hlb : ∀ h : k < b.length, v ≤ b[k].v) :
    BothI a b (O ++ [v]) i' k' ∧ (i < i' ∨ k < k') := by
  have rise_le : ∀ {l : List UseD}, Good l → ∀ (x y : Nat) (h1 : x ≤ y) (h2 : y < l.length), l[x].v ≤ l[y].v := fun hl x y h1 h2 => by
    rcases Nat.lt_or_ge x y with h | h
    · have := (mayU_rise hl.mayU).up x y h h2; omega
    · have : x = y := by omega
      subst this; exact Int.le_refl _
  have hmove : i < i' ∨ k < k' := by
    rcases hv with ⟨h1, h2⟩ | ⟨h1, h2⟩
    · refine .inl ?_
      rcases Nat.lt_or_ge i i' with h' | h'
      · exact h'
      · have : i' = i := by omega
        subst this
        exact absurd h2 (hfa h1)
    · refine .inr ?_
      rcases Nat.lt_or_ge k k' with h' | h'
      · exact h'
      · have : k' = k := by omega
        subst this
        exact absurd h2 (hfb h1)
  have hOv : ∀ o ∈ O, o < v := fun o ho => by
    rcases hv with ⟨h1, h2⟩ | ⟨h1, h2⟩
    · rw [← h2]; exact h.la o ho i h1 (Nat.le_refl _)
    · rw [← h2]; exact h.lb o ho k h1 (Nat.le_refl _)
  refine ⟨⟨?_, fun x => ?_, fun o ho j hj hij => ?_, fun o ho j hj hij => ?_⟩, hmove⟩
  · unfold Rises
    rw [List.pairwise_append]
    exact ⟨h.rise, by simp, fun o ho x hx => by rw [List.mem_singleton] at hx; subst hx; exact hOv o ho⟩
  · rw [List.mem_append, List.mem_singleton, h.mem, mem_take_more hii hil hea, mem_take_more hkk hkl heb]
    constructor
    · rintro ((h1 | h1) | rfl)
      · exact .inl (.inl h1)
      · exact .inr (.inl h1)
      · rcases hmove with h1 | h1
        · exact .inl (.inr ⟨h1, rfl⟩)
        · exact .inr (.inr ⟨h1, rfl⟩)
    · rintro ((h1 | ⟨_, h1⟩) | (h1 | ⟨_, h1⟩))
      · exact .inl (.inl h1)
      · exact .inr h1
      · exact .inl (.inr h1)
      · exact .inr h1
  · have h1 := rise_le ha i' j hij hj
    have h2 := rise_le ha i i' hii (by omega)
    have h3 := hla (by omega)
    have h4 := hfa (by omega)
    rcases List.mem_append.1 ho with ho | ho
    · have := hOv o ho; omega
    · rw [List.mem_singleton] at ho; omega
  · have h1 := rise_le hb k' j hij hj
    have h2 := rise_le hb k k' hkk (by omega)
    have h3 := hlb (by omega)
    have h4 := hfb (by omega)
    rcases List.mem_append.1 ho with ho | ho
    · have := hOv o ho; omega
    · rw [List.mem_singleton] at ho; omega

set_option maxRecDepth 100000 in
set_option maxHeartbeats 4000000 in
theorem bothU_any (A : Option Addr) (n c : Nat) (a : List UseD) (A' : Option Addr) (n' c' : Nat) (b : List UseD) (w : World) (hx : UsesV w w.heap.size A n c a) (hy : UsesV w w.heap.size A' n' c' b) (ha : Good a) (hb : Good b) :
    Calls Try.prog 46 #[.slice A n c, .slice A' n' c'] w (RetI .i64 (sset (varsOf [a, b])) w) := by
  have hal := hx.len
  have hbl := hy.len
  have hna : n ≤ 1048576 := by rw [← hal]; exact (mayU_rises ha.mayU).2
  have hnb : n' ≤ 1048576 := by rw [← hbl]; exact (mayU_rises hb.mayU).2
  obtain ⟨i0, hi0, hz0, hz1, hz2⟩ := info_parts (show (Try.prog.info? 3).map (fun i => (i.zero, i.size, i.bytes)) = some (some (.int .i64 0), 1, 8) from by kernel_rfl)
  have Hx := Lib.hid hx
  have Hy := Lib.hid hy
  have Ha := Lib.hid ha
  have Hb := Lib.hid hb
  clear hx hy ha hb
  go_enter Try.func46, Try.ntmps46
  go_wp2_with fail
  go_loopg [5, 6, 7] (n + n') (fun gh so si sk wr => ∃ (i k m : Nat) (A1 : Option Addr) (c1 : Nat) (O : List Int), i ≤ n ∧ k ≤ n' ∧ gh = (n - i) + (n' - k) ∧ si = .int .i64 i ∧ sk = .int .i64 k ∧ so = .slice A1 m c1 ∧ m ≤ i + k ∧
    wr.ownsRow w.heap.size 3 1 (.slice A1 m c1) m (O.map (Value.int .i64)) ∧ BothI a b O i k ∧ Below w.heap.size w wr)
  case atStart => exact ⟨0, 0, 0, none, 0, [], Nat.zero_le _, Nat.zero_le _, by omega, rfl, rfl, rfl, Nat.le_refl _, World.ownsRow_nil _ _ _ _, bothI_start a b, Below.refl _ _⟩
  case round =>
    obtain ⟨i, k, m, A1, c1, O, hi, hk, rfl, rfl, rfl, rfl, hm, ho, hI, hbel⟩ := hrel
    have HI := Lib.hid hI
    have Ho := Lib.hid ho
    have Hbel := Lib.hid hbel
    have i1 : (0 : Int) ≤ (i : Int) := by omega
    have k1 : (0 : Int) ≤ (k : Int) := by omega
    -- the head cells
    have hca : i < n → ∃ bb oo x, A = some ⟨bb, oo, none⟩ ∧ wr.cell? ⟨bb, oo + i * 4, none⟩ = some (.int .i64 x) ∧ ∃ h : i < a.length, a[i].v = x := fun h => by
      obtain ⟨bb, oo, q, hb, hc⟩ := (Hx.out.below hbel).at_ (by omega)
      exact ⟨bb, oo, _, q, (hc i (by omega)).1, by omega, rfl⟩
    have hcb : k < n' → ∃ bb oo x, A' = some ⟨bb, oo, none⟩ ∧ wr.cell? ⟨bb, oo + k * 4, none⟩ = some (.int .i64 x) ∧ ∃ h : k < b.length, b[k].v = x := fun h => by
      obtain ⟨bb, oo, q, hb, hc⟩ := (Hy.out.below hbel).at_ (by omega)
      exact ⟨bb, oo, _, q, (hc k (by omega)).1, by omega, rfl⟩
    have Hca := Lib.hid hca
    have Hcb := Lib.hid hcb
    clear hca hcb hI ho hbel
    by_cases hin : i < n
    · have di : decide (i < n) = true := by simpa using hin
      obtain ⟨ba, oa, xa, rfl, ea, hal2, hxa⟩ := Hca.out hin
      have ea' := Lib.hid ea
      have ii2 : (i : Int) < n := by omega
      by_cases hkn : k < n'
      · have dk : decide (n' ≤ k) = false := by simpa using hkn
        obtain ⟨bb, ob, xb, rfl, eb, hbl2, hxb⟩ := Hcb.out hkn
        have kk2 : (k : Int) < n' := by omega
        by_cases hle : xa ≤ xb
        · have dl : decide (xa ≤ xb) = true := by simpa using hle
          have Hv : Hid ((∃ h : i < a.length, a[i].v = xa) ∨ (∃ h : k < b.length, b[k].v = xa)) := Lib.hid (.inl ⟨hal2, hxa⟩)
          have Hla : Hid (∀ h : i < a.length, xa ≤ a[i].v) := Lib.hid fun _ => by rw [hxa]; exact Int.le_refl _
          have Hlb : Hid (∀ h : k < b.length, xa ≤ b[k].v) := Lib.hid fun _ => by rw [hxb]; exact hle
          clear hxa hxb hle
          go_wp2_with fail
          go_quiet (fail)
          go_wp2_with fail
          have hbq := below_drewN_t (Below.refl wr.heap.size wr) nq
          obtain ⟨w1, hw1⟩ : ∃ w1, wr.drewN nq = w1 := ⟨_, rfl⟩
          rw [hw1] at hbq ⊢
          have Ho1 := Lib.hid (ownsRow_beyond Ho.out hbq)
          have Hbel1 := Lib.hid (Hbel.out.trans (hbq.mono Hbel.out.size))
          clear hbq hw1
          try clear ea
          try clear eb
          go_loopg [6] (n - i) (fun gh si wr2 => ∃ i' : Nat, i ≤ i' ∧ i' ≤ n ∧ gh = n - i' ∧ si = .int .i64 i' ∧ (∀ j (h : j < a.length), i ≤ j → j < i' → a[j].v = xa) ∧ w1 = wr2)
          case atStart => exact ⟨i, Nat.le_refl _, hi, rfl, rfl, fun j _ h1 h2 => absurd h1 (by omega), rfl⟩
          case round =>
            obtain ⟨i', hii, hil, rfl, rfl, hea, rfl⟩ := hrel
            have Hea := Lib.hid hea
            clear hea
            by_cases hin2 : i' < n
            · try (exfalso; omega)
              all_goals
                have d3 : decide (i' < n) = true := by simpa using hin2
                obtain ⟨b2, o2, q2, hb2, hc2⟩ := (Hx.out.below Hbel1.out).at_ (by omega)
                cases q2
                have hia : i' < a.length := by omega
                have y0 := (hc2 i' hia).1
                obtain ⟨y, hy⟩ : ∃ y, a[i'].v = y := ⟨_, rfl⟩
                rw [hy] at y0
                have HY := Lib.hid hy
                have j1 : (0 : Int) ≤ (i' : Int) := by omega
                have j2 : (i' : Int) < n := by omega
                clear hc2 hy
                by_cases hyv : y = xa
                · have d4 : (y == xa) = true := by simp [hyv]
                  have hea2 : ∀ j (h : j < a.length), i ≤ j → j < i' + 1 → a[j].v = xa := fun j h h1 h2 => by
                    rcases Nat.lt_or_ge j i' with h' | h'
                    · exact Hea.out j h h1 h'
                    · have : j = i' := by omega
                      subst this
                      rw [HY.out]; exact hyv
                  have Hea2 := Lib.hid hea2
                  clear hea2 hyv
                  go_wp2_with fail
                  go_roundg (n - (i' + 1))
                  case measure => omega
                  case rel => exact ⟨i' + 1, by omega, by omega, rfl, by go_num, Hea2.out, rfl⟩
                · have d4 : (y == xa) = false := by simp [hyv]
                  have Hfa : Hid (∀ h : i' < a.length, a[i'].v ≠ xa) := Lib.hid fun _ => by rw [HY.out]; exact hyv
                  clear hyv
                  go_wp2_with fail
                  go_loopg [7] (n' - k) (fun gh sk wr2 => ∃ k' : Nat, k ≤ k' ∧ k' ≤ n' ∧ gh = n' - k' ∧ sk = .int .i64 k' ∧ (∀ j (h : j < b.length), k ≤ j → j < k' → b[j].v = xa) ∧ w1 = wr2)
                  case atStart => exact ⟨k, Nat.le_refl _, hk, rfl, rfl, fun j _ h1 h2 => absurd h1 (by omega), rfl⟩
                  case round =>
                    obtain ⟨k', hkk, hkl, rfl, rfl, heb, rfl⟩ := hrel
                    have Heb := Lib.hid heb
                    clear heb
                    by_cases hkn2 : k' < n'
                    · try (exfalso; omega)
                      all_goals
                        have d5 : decide (k' < n') = true := by simpa using hkn2
                        obtain ⟨b3, o3, q3, hb3, hc3⟩ := (Hy.out.below Hbel1.out).at_ (by omega)
                        cases q3
                        have hkb : k' < b.length := by omega
                        have z0 := (hc3 k' hkb).1
                        obtain ⟨z, hz⟩ : ∃ z, b[k'].v = z := ⟨_, rfl⟩
                        rw [hz] at z0
                        have Hz := Lib.hid hz
                        have l1 : (0 : Int) ≤ (k' : Int) := by omega
                        have l2 : (k' : Int) < n' := by omega
                        clear hc3 hz
                        by_cases hzv : z = xa
                        · have d6 : (z == xa) = true := by simp [hzv]
                          have heb2 : ∀ j (h : j < b.length), k ≤ j → j < k' + 1 → b[j].v = xa := fun j h h1 h2 => by
                            rcases Nat.lt_or_ge j k' with h' | h'
                            · exact Heb.out j h h1 h'
                            · have : j = k' := by omega
                              subst this
                              rw [Hz.out]; exact hzv
                          have Heb2 := Lib.hid heb2
                          clear heb2 hzv
                          go_wp2_with fail
                          go_roundg (n' - (k' + 1))
                          case measure => omega
                          case rel => exact ⟨k' + 1, by omega, by omega, rfl, by go_num, Heb2.out, rfl⟩
                        · have d6 : (z == xa) = false := by simp [hzv]
                          have Hfb : Hid (∀ h : k' < b.length, b[k'].v ≠ xa) := Lib.hid fun _ => by rw [Hz.out]; exact hzv
                          clear hzv
                          have hst := bothI_step Ha.out Hb.out HI.out hii (by omega) hkk (by omega) Hea.out Heb.out Hfa.out Hfb.out Hv.out Hla.out Hlb.out
                          obtain ⟨hI2, hmv⟩ := hst
                          have HI2 := Lib.hid hI2
                          clear hI2
                          go_wp2_with (at_builtin; go_must (refine wpList_append_one w w1 rfl (.tmp 82) (.tmp 84) 35 rfl w.heap.size 3 i0 _ 1 8 Try.underlying35 hi0 hz0 hz1 hz2 rfl (by omega) (.slice A1 m c1) m (O.map (Value.int .i64)) rfl [.int .i64 xa] rfl (by intro u hu; simp at hu; subst hu; rfl) rfl Ho1.out (by unfold maxLen; omega) (by omega) Hbel1.out Hbel1.out.size ?_); intro A9 c9 w9 ho9 hbel9 hg9 hz9)
                          go_roundg ((n - i') + (n' - k'))
                          case measure => omega
                          case rel => exact ⟨i', k', m + 1, A9, c9, O ++ [xa], by omega, by omega, rfl, rfl, rfl, rfl, by omega, by rw [List.map_append]; exact ho9, HI2.out, hbel9⟩
                    · have d5 : decide (k' < n') = false := by simpa using hkn2
                      have Hfb : Hid (∀ h : k' < b.length, b[k'].v ≠ xa) := Lib.hid fun h => absurd h (by omega)
                      have hst := bothI_step Ha.out Hb.out HI.out hii (by omega) hkk (by omega) Hea.out Heb.out Hfa.out Hfb.out Hv.out Hla.out Hlb.out
                      obtain ⟨hI2, hmv⟩ := hst
                      have HI2 := Lib.hid hI2
                      clear hI2
                      go_wp2_with (at_builtin; go_must (refine wpList_append_one w w1 rfl (.tmp 82) (.tmp 84) 35 rfl w.heap.size 3 i0 _ 1 8 Try.underlying35 hi0 hz0 hz1 hz2 rfl (by omega) (.slice A1 m c1) m (O.map (Value.int .i64)) rfl [.int .i64 xa] rfl (by intro u hu; simp at hu; subst hu; rfl) rfl Ho1.out (by unfold maxLen; omega) (by omega) Hbel1.out Hbel1.out.size ?_); intro A9 c9 w9 ho9 hbel9 hg9 hz9)
                      go_roundg ((n - i') + (n' - k'))
                      case measure => omega
                      case rel => exact ⟨i', k', m + 1, A9, c9, O ++ [xa], by omega, by omega, rfl, rfl, rfl, rfl, by omega, by rw [List.map_append]; exact ho9, HI2.out, hbel9⟩
            · have d3 : decide (i' < n) = false := by simpa using hin2
              have Hfa : Hid (∀ h : i' < a.length, a[i'].v ≠ xa) := Lib.hid fun h => absurd h (by omega)
              go_wp2_with fail
              go_loopg [7] (n' - k) (fun gh sk wr2 => ∃ k' : Nat, k ≤ k' ∧ k' ≤ n' ∧ gh = n' - k' ∧ sk = .int .i64 k' ∧ (∀ j (h : j < b.length), k ≤ j → j < k' → b[j].v = xa) ∧ w1 = wr2)
              case atStart => exact ⟨k, Nat.le_refl _, hk, rfl, rfl, fun j _ h1 h2 => absurd h1 (by omega), rfl⟩
              case round =>
                obtain ⟨k', hkk, hkl, rfl, rfl, heb, rfl⟩ := hrel
                have Heb := Lib.hid heb
                clear heb
                by_cases hkn2 : k' < n'
                · try (exfalso; omega)
                  all_goals
                    have d5 : decide (k' < n') = true := by simpa using hkn2
                    obtain ⟨b3, o3, q3, hb3, hc3⟩ := (Hy.out.below Hbel1.out).at_ (by omega)
                    cases q3
                    have hkb : k' < b.length := by omega
                    have z0 := (hc3 k' hkb).1
                    obtain ⟨z, hz⟩ : ∃ z, b[k'].v = z := ⟨_, rfl⟩
                    rw [hz] at z0
                    have Hz := Lib.hid hz
                    have l1 : (0 : Int) ≤ (k' : Int) := by omega
                    have l2 : (k' : Int) < n' := by omega
                    clear hc3 hz
                    by_cases hzv : z = xa
                    · have d6 : (z == xa) = true := by simp [hzv]
                      have heb2 : ∀ j (h : j < b.length), k ≤ j → j < k' + 1 → b[j].v = xa := fun j h h1 h2 => by
                        rcases Nat.lt_or_ge j k' with h' | h'
                        · exact Heb.out j h h1 h'
                        · have : j = k' := by omega
                          subst this
                          rw [Hz.out]; exact hzv
                      have Heb2 := Lib.hid heb2
                      clear heb2 hzv
                      go_wp2_with fail
                      go_roundg (n' - (k' + 1))
                      case measure => omega
                      case rel => exact ⟨k' + 1, by omega, by omega, rfl, by go_num, Heb2.out, rfl⟩
                    · have d6 : (z == xa) = false := by simp [hzv]
                      have Hfb : Hid (∀ h : k' < b.length, b[k'].v ≠ xa) := Lib.hid fun _ => by rw [Hz.out]; exact hzv
                      clear hzv
                      have hst := bothI_step Ha.out Hb.out HI.out hii (by omega) hkk (by omega) Hea.out Heb.out Hfa.out Hfb.out Hv.out Hla.out Hlb.out
                      obtain ⟨hI2, hmv⟩ := hst
                      have HI2 := Lib.hid hI2
                      clear hI2
                      go_wp2_with (at_builtin; go_must (refine wpList_append_one w w1 rfl (.tmp 82) (.tmp 84) 35 rfl w.heap.size 3 i0 _ 1 8 Try.underlying35 hi0 hz0 hz1 hz2 rfl (by omega) (.slice A1 m c1) m (O.map (Value.int .i64)) rfl [.int .i64 xa] rfl (by intro u hu; simp at hu; subst hu; rfl) rfl Ho1.out (by unfold maxLen; omega) (by omega) Hbel1.out Hbel1.out.size ?_); intro A9 c9 w9 ho9 hbel9 hg9 hz9)
                      go_roundg ((n - i') + (n' - k'))
                      case measure => omega
                      case rel => exact ⟨i', k', m + 1, A9, c9, O ++ [xa], by omega, by omega, rfl, rfl, rfl, rfl, by omega, by rw [List.map_append]; exact ho9, HI2.out, hbel9⟩
                · have d5 : decide (k' < n') = false := by simpa using hkn2
                  have Hfb : Hid (∀ h : k' < b.length, b[k'].v ≠ xa) := Lib.hid fun h => absurd h (by omega)
                  have hst := bothI_step Ha.out Hb.out HI.out hii (by omega) hkk (by omega) Hea.out Heb.out Hfa.out Hfb.out Hv.out Hla.out Hlb.out
                  obtain ⟨hI2, hmv⟩ := hst
                  have HI2 := Lib.hid hI2
                  clear hI2
                  go_wp2_with (at_builtin; go_must (refine wpList_append_one w w1 rfl (.tmp 82) (.tmp 84) 35 rfl w.heap.size 3 i0 _ 1 8 Try.underlying35 hi0 hz0 hz1 hz2 rfl (by omega) (.slice A1 m c1) m (O.map (Value.int .i64)) rfl [.int .i64 xa] rfl (by intro u hu; simp at hu; subst hu; rfl) rfl Ho1.out (by unfold maxLen; omega) (by omega) Hbel1.out Hbel1.out.size ?_); intro A9 c9 w9 ho9 hbel9 hg9 hz9)
                  go_roundg ((n - i') + (n' - k'))
                  case measure => omega
                  case rel => exact ⟨i', k', m + 1, A9, c9, O ++ [xa], by omega, by omega, rfl, rfl, rfl, rfl, by omega, by rw [List.map_append]; exact ho9, HI2.out, hbel9⟩
        · have dl : decide (xa ≤ xb) = false := by simpa using hle
          have Hv : Hid ((∃ h : i < a.length, a[i].v = xb) ∨ (∃ h : k < b.length, b[k].v = xb)) := Lib.hid (.inr ⟨hbl2, hxb⟩)
          have Hla : Hid (∀ h : i < a.length, xb ≤ a[i].v) := Lib.hid fun _ => by rw [hxa]; omega
          have Hlb : Hid (∀ h : k < b.length, xb ≤ b[k].v) := Lib.hid fun _ => by rw [hxb]; exact Int.le_refl _
          clear hxa hxb hle
          go_wp2_with fail
          go_quiet (fail)
          go_wp2_with fail
          have hbq := below_drewN_t (Below.refl wr.heap.size wr) nq
          obtain ⟨w1, hw1⟩ : ∃ w1, wr.drewN nq = w1 := ⟨_, rfl⟩
          rw [hw1] at hbq ⊢
          have Ho1 := Lib.hid (ownsRow_beyond Ho.out hbq)
          have Hbel1 := Lib.hid (Hbel.out.trans (hbq.mono Hbel.out.size))
          clear hbq hw1
          try clear ea
          try clear eb
          go_loopg [6] (n - i) (fun gh si wr2 => ∃ i' : Nat, i ≤ i' ∧ i' ≤ n ∧ gh = n - i' ∧ si = .int .i64 i' ∧ (∀ j (h : j < a.length), i ≤ j → j < i' → a[j].v = xb) ∧ w1 = wr2)
          case atStart => exact ⟨i, Nat.le_refl _, hi, rfl, rfl, fun j _ h1 h2 => absurd h1 (by omega), rfl⟩
          case round =>
            obtain ⟨i', hii, hil, rfl, rfl, hea, rfl⟩ := hrel
            have Hea := Lib.hid hea
            clear hea
            by_cases hin2 : i' < n
            · try (exfalso; omega)
              all_goals
                have d3 : decide (i' < n) = true := by simpa using hin2
                obtain ⟨b2, o2, q2, hb2, hc2⟩ := (Hx.out.below Hbel1.out).at_ (by omega)
                cases q2
                have hia : i' < a.length := by omega
                have y0 := (hc2 i' hia).1
                obtain ⟨y, hy⟩ : ∃ y, a[i'].v = y := ⟨_, rfl⟩
                rw [hy] at y0
                have HY := Lib.hid hy
                have j1 : (0 : Int) ≤ (i' : Int) := by omega
                have j2 : (i' : Int) < n := by omega
                clear hc2 hy
                by_cases hyv : y = xb
                · have d4 : (y == xb) = true := by simp [hyv]
                  have hea2 : ∀ j (h : j < a.length), i ≤ j → j < i' + 1 → a[j].v = xb := fun j h h1 h2 => by
                    rcases Nat.lt_or_ge j i' with h' | h'
                    · exact Hea.out j h h1 h'
                    · have : j = i' := by omega
                      subst this
                      rw [HY.out]; exact hyv
                  have Hea2 := Lib.hid hea2
                  clear hea2 hyv
                  go_wp2_with fail
                  go_roundg (n - (i' + 1))
                  case measure => omega
                  case rel => exact ⟨i' + 1, by omega, by omega, rfl, by go_num, Hea2.out, rfl⟩
                · have d4 : (y == xb) = false := by simp [hyv]
                  have Hfa : Hid (∀ h : i' < a.length, a[i'].v ≠ xb) := Lib.hid fun _ => by rw [HY.out]; exact hyv
                  clear hyv
                  go_wp2_with fail
                  go_loopg [7] (n' - k) (fun gh sk wr2 => ∃ k' : Nat, k ≤ k' ∧ k' ≤ n' ∧ gh = n' - k' ∧ sk = .int .i64 k' ∧ (∀ j (h : j < b.length), k ≤ j → j < k' → b[j].v = xb) ∧ w1 = wr2)
                  case atStart => exact ⟨k, Nat.le_refl _, hk, rfl, rfl, fun j _ h1 h2 => absurd h1 (by omega), rfl⟩
                  case round =>
                    obtain ⟨k', hkk, hkl, rfl, rfl, heb, rfl⟩ := hrel
                    have Heb := Lib.hid heb
                    clear heb
                    by_cases hkn2 : k' < n'
                    · try (exfalso; omega)
                      all_goals
                        have d5 : decide (k' < n') = true := by simpa using hkn2
                        obtain ⟨b3, o3, q3, hb3, hc3⟩ := (Hy.out.below Hbel1.out).at_ (by omega)
                        cases q3
                        have hkb : k' < b.length := by omega
                        have z0 := (hc3 k' hkb).1
                        obtain ⟨z, hz⟩ : ∃ z, b[k'].v = z := ⟨_, rfl⟩
                        rw [hz] at z0
                        have Hz := Lib.hid hz
                        have l1 : (0 : Int) ≤ (k' : Int) := by omega
                        have l2 : (k' : Int) < n' := by omega
                        clear hc3 hz
                        by_cases hzv : z = xb
                        · have d6 : (z == xb) = true := by simp [hzv]
                          have heb2 : ∀ j (h : j < b.length), k ≤ j → j < k' + 1 → b[j].v = xb := fun j h h1 h2 => by
                            rcases Nat.lt_or_ge j k' with h' | h'
                            · exact Heb.out j h h1 h'
                            · have : j = k' := by omega
                              subst this
                              rw [Hz.out]; exact hzv
                          have Heb2 := Lib.hid heb2
                          clear heb2 hzv
                          go_wp2_with fail
                          go_roundg (n' - (k' + 1))
                          case measure => omega
                          case rel => exact ⟨k' + 1, by omega, by omega, rfl, by go_num, Heb2.out, rfl⟩
                        · have d6 : (z == xb) = false := by simp [hzv]
                          have Hfb : Hid (∀ h : k' < b.length, b[k'].v ≠ xb) := Lib.hid fun _ => by rw [Hz.out]; exact hzv
                          clear hzv
                          have hst := bothI_step Ha.out Hb.out HI.out hii (by omega) hkk (by omega) Hea.out Heb.out Hfa.out Hfb.out Hv.out Hla.out Hlb.out
                          obtain ⟨hI2, hmv⟩ := hst
                          have HI2 := Lib.hid hI2
                          clear hI2
                          go_wp2_with (at_builtin; go_must (refine wpList_append_one w w1 rfl (.tmp 82) (.tmp 84) 35 rfl w.heap.size 3 i0 _ 1 8 Try.underlying35 hi0 hz0 hz1 hz2 rfl (by omega) (.slice A1 m c1) m (O.map (Value.int .i64)) rfl [.int .i64 xb] rfl (by intro u hu; simp at hu; subst hu; rfl) rfl Ho1.out (by unfold maxLen; omega) (by omega) Hbel1.out Hbel1.out.size ?_); intro A9 c9 w9 ho9 hbel9 hg9 hz9)
                          go_roundg ((n - i') + (n' - k'))
                          case measure => omega
                          case rel => exact ⟨i', k', m + 1, A9, c9, O ++ [xb], by omega, by omega, rfl, rfl, rfl, rfl, by omega, by rw [List.map_append]; exact ho9, HI2.out, hbel9⟩
                    · have d5 : decide (k' < n') = false := by simpa using hkn2
                      have Hfb : Hid (∀ h : k' < b.length, b[k'].v ≠ xb) := Lib.hid fun h => absurd h (by omega)
                      have hst := bothI_step Ha.out Hb.out HI.out hii (by omega) hkk (by omega) Hea.out Heb.out Hfa.out Hfb.out Hv.out Hla.out Hlb.out
                      obtain ⟨hI2, hmv⟩ := hst
                      have HI2 := Lib.hid hI2
                      clear hI2
                      go_wp2_with (at_builtin; go_must (refine wpList_append_one w w1 rfl (.tmp 82) (.tmp 84) 35 rfl w.heap.size 3 i0 _ 1 8 Try.underlying35 hi0 hz0 hz1 hz2 rfl (by omega) (.slice A1 m c1) m (O.map (Value.int .i64)) rfl [.int .i64 xb] rfl (by intro u hu; simp at hu; subst hu; rfl) rfl Ho1.out (by unfold maxLen; omega) (by omega) Hbel1.out Hbel1.out.size ?_); intro A9 c9 w9 ho9 hbel9 hg9 hz9)
                      go_roundg ((n - i') + (n' - k'))
                      case measure => omega
                      case rel => exact ⟨i', k', m + 1, A9, c9, O ++ [xb], by omega, by omega, rfl, rfl, rfl, rfl, by omega, by rw [List.map_append]; exact ho9, HI2.out, hbel9⟩
            · have d3 : decide (i' < n) = false := by simpa using hin2
              have Hfa : Hid (∀ h : i' < a.length, a[i'].v ≠ xb) := Lib.hid fun h => absurd h (by omega)
              go_wp2_with fail
              go_loopg [7] (n' - k) (fun gh sk wr2 => ∃ k' : Nat, k ≤ k' ∧ k' ≤ n' ∧ gh = n' - k' ∧ sk = .int .i64 k' ∧ (∀ j (h : j < b.length), k ≤ j → j < k' → b[j].v = xb) ∧ w1 = wr2)
              case atStart => exact ⟨k, Nat.le_refl _, hk, rfl, rfl, fun j _ h1 h2 => absurd h1 (by omega), rfl⟩
              case round =>
                obtain ⟨k', hkk, hkl, rfl, rfl, heb, rfl⟩ := hrel
                have Heb := Lib.hid heb
                clear heb
                by_cases hkn2 : k' < n'
                · try (exfalso; omega)
                  all_goals
                    have d5 : decide (k' < n') = true := by simpa using hkn2
                    obtain ⟨b3, o3, q3, hb3, hc3⟩ := (Hy.out.below Hbel1.out).at_ (by omega)
                    cases q3
                    have hkb : k' < b.length := by omega
                    have z0 := (hc3 k' hkb).1
                    obtain ⟨z, hz⟩ : ∃ z, b[k'].v = z := ⟨_, rfl⟩
                    rw [hz] at z0
                    have Hz := Lib.hid hz
                    have l1 : (0 : Int) ≤ (k' : Int) := by omega
                    have l2 : (k' : Int) < n' := by omega
                    clear hc3 hz
                    by_cases hzv : z = xb
                    · have d6 : (z == xb) = true := by simp [hzv]
                      have heb2 : ∀ j (h : j < b.length), k ≤ j → j < k' + 1 → b[j].v = xb := fun j h h1 h2 => by
                        rcases Nat.lt_or_ge j k' with h' | h'
                        · exact Heb.out j h h1 h'
                        · have : j = k' := by omega
                          subst this
                          rw [Hz.out]; exact hzv
                      have Heb2 := Lib.hid heb2
                      clear heb2 hzv
                      go_wp2_with fail
                      go_roundg (n' - (k' + 1))
                      case measure => omega
                      case rel => exact ⟨k' + 1, by omega, by omega, rfl, by go_num, Heb2.out, rfl⟩
                    · have d6 : (z == xb) = false := by simp [hzv]
                      have Hfb : Hid (∀ h : k' < b.length, b[k'].v ≠ xb) := Lib.hid fun _ => by rw [Hz.out]; exact hzv
                      clear hzv
                      have hst := bothI_step Ha.out Hb.out HI.out hii (by omega) hkk (by omega) Hea.out Heb.out Hfa.out Hfb.out Hv.out Hla.out Hlb.out
                      obtain ⟨hI2, hmv⟩ := hst
                      have HI2 := Lib.hid hI2
                      clear hI2
                      go_wp2_with (at_builtin; go_must (refine wpList_append_one w w1 rfl (.tmp 82) (.tmp 84) 35 rfl w.heap.size 3 i0 _ 1 8 Try.underlying35 hi0 hz0 hz1 hz2 rfl (by omega) (.slice A1 m c1) m (O.map (Value.int .i64)) rfl [.int .i64 xb] rfl (by intro u hu; simp at hu; subst hu; rfl) rfl Ho1.out (by unfold maxLen; omega) (by omega) Hbel1.out Hbel1.out.size ?_); intro A9 c9 w9 ho9 hbel9 hg9 hz9)
                      go_roundg ((n - i') + (n' - k'))
                      case measure => omega
                      case rel => exact ⟨i', k', m + 1, A9, c9, O ++ [xb], by omega, by omega, rfl, rfl, rfl, rfl, by omega, by rw [List.map_append]; exact ho9, HI2.out, hbel9⟩
                · have d5 : decide (k' < n') = false := by simpa using hkn2
                  have Hfb : Hid (∀ h : k' < b.length, b[k'].v ≠ xb) := Lib.hid fun h => absurd h (by omega)
                  have hst := bothI_step Ha.out Hb.out HI.out hii (by omega) hkk (by omega) Hea.out Heb.out Hfa.out Hfb.out Hv.out Hla.out Hlb.out
                  obtain ⟨hI2, hmv⟩ := hst
                  have HI2 := Lib.hid hI2
                  clear hI2
                  go_wp2_with (at_builtin; go_must (refine wpList_append_one w w1 rfl (.tmp 82) (.tmp 84) 35 rfl w.heap.size 3 i0 _ 1 8 Try.underlying35 hi0 hz0 hz1 hz2 rfl (by omega) (.slice A1 m c1) m (O.map (Value.int .i64)) rfl [.int .i64 xb] rfl (by intro u hu; simp at hu; subst hu; rfl) rfl Ho1.out (by unfold maxLen; omega) (by omega) Hbel1.out Hbel1.out.size ?_); intro A9 c9 w9 ho9 hbel9 hg9 hz9)
                  go_roundg ((n - i') + (n' - k'))
                  case measure => omega
                  case rel => exact ⟨i', k', m + 1, A9, c9, O ++ [xb], by omega, by omega, rfl, rfl, rfl, rfl, by omega, by rw [List.map_append]; exact ho9, HI2.out, hbel9⟩
      · have dk : decide (n' ≤ k) = true := by simp; omega
        have Hv : Hid ((∃ h : i < a.length, a[i].v = xa) ∨ (∃ h : k < b.length, b[k].v = xa)) := Lib.hid (.inl ⟨hal2, hxa⟩)
        have Hla : Hid (∀ h : i < a.length, xa ≤ a[i].v) := Lib.hid fun _ => by rw [hxa]; exact Int.le_refl _
        have Hlb : Hid (∀ h : k < b.length, xa ≤ b[k].v) := Lib.hid fun h => absurd h (by omega)
        clear hxa
        go_wp2_with fail
        go_quiet (fail)
        go_wp2_with fail
        have hbq := below_drewN_t (Below.refl wr.heap.size wr) nq
        obtain ⟨w1, hw1⟩ : ∃ w1, wr.drewN nq = w1 := ⟨_, rfl⟩
        rw [hw1] at hbq ⊢
        have Ho1 := Lib.hid (ownsRow_beyond Ho.out hbq)
        have Hbel1 := Lib.hid (Hbel.out.trans (hbq.mono Hbel.out.size))
        clear hbq hw1
        try clear ea
        try clear eb
        go_loopg [6] (n - i) (fun gh si wr2 => ∃ i' : Nat, i ≤ i' ∧ i' ≤ n ∧ gh = n - i' ∧ si = .int .i64 i' ∧ (∀ j (h : j < a.length), i ≤ j → j < i' → a[j].v = xa) ∧ w1 = wr2)
        case atStart => exact ⟨i, Nat.le_refl _, hi, rfl, rfl, fun j _ h1 h2 => absurd h1 (by omega), rfl⟩
        case round =>
          obtain ⟨i', hii, hil, rfl, rfl, hea, rfl⟩ := hrel
          have Hea := Lib.hid hea
          clear hea
          by_cases hin2 : i' < n
          · try (exfalso; omega)
            all_goals
              have d3 : decide (i' < n) = true := by simpa using hin2
              obtain ⟨b2, o2, q2, hb2, hc2⟩ := (Hx.out.below Hbel1.out).at_ (by omega)
              cases q2
              have hia : i' < a.length := by omega
              have y0 := (hc2 i' hia).1
              obtain ⟨y, hy⟩ : ∃ y, a[i'].v = y := ⟨_, rfl⟩
              rw [hy] at y0
              have HY := Lib.hid hy
              have j1 : (0 : Int) ≤ (i' : Int) := by omega
              have j2 : (i' : Int) < n := by omega
              clear hc2 hy
              by_cases hyv : y = xa
              · have d4 : (y == xa) = true := by simp [hyv]
                have hea2 : ∀ j (h : j < a.length), i ≤ j → j < i' + 1 → a[j].v = xa := fun j h h1 h2 => by
                  rcases Nat.lt_or_ge j i' with h' | h'
                  · exact Hea.out j h h1 h'
                  · have : j = i' := by omega
                    subst this
                    rw [HY.out]; exact hyv
                have Hea2 := Lib.hid hea2
                clear hea2 hyv
                go_wp2_with fail
                go_roundg (n - (i' + 1))
                case measure => omega
                case rel => exact ⟨i' + 1, by omega, by omega, rfl, by go_num, Hea2.out, rfl⟩
              · have d4 : (y == xa) = false := by simp [hyv]
                have Hfa : Hid (∀ h : i' < a.length, a[i'].v ≠ xa) := Lib.hid fun _ => by rw [HY.out]; exact hyv
                clear hyv
                go_wp2_with fail
                go_loopg [7] (n' - k) (fun gh sk wr2 => ∃ k' : Nat, k ≤ k' ∧ k' ≤ n' ∧ gh = n' - k' ∧ sk = .int .i64 k' ∧ (∀ j (h : j < b.length), k ≤ j → j < k' → b[j].v = xa) ∧ w1 = wr2)
                case atStart => exact ⟨k, Nat.le_refl _, hk, rfl, rfl, fun j _ h1 h2 => absurd h1 (by omega), rfl⟩
                case round =>
                  obtain ⟨k', hkk, hkl, rfl, rfl, heb, rfl⟩ := hrel
                  have Heb := Lib.hid heb
                  clear heb
                  by_cases hkn2 : k' < n'
                  · try (exfalso; omega)
                    all_goals
                      have d5 : decide (k' < n') = true := by simpa using hkn2
                      obtain ⟨b3, o3, q3, hb3, hc3⟩ := (Hy.out.below Hbel1.out).at_ (by omega)
                      cases q3
                      have hkb : k' < b.length := by omega
                      have z0 := (hc3 k' hkb).1
                      obtain ⟨z, hz⟩ : ∃ z, b[k'].v = z := ⟨_, rfl⟩
                      rw [hz] at z0
                      have Hz := Lib.hid hz
                      have l1 : (0 : Int) ≤ (k' : Int) := by omega
                      have l2 : (k' : Int) < n' := by omega
                      clear hc3 hz
                      by_cases hzv : z = xa
                      · have d6 : (z == xa) = true := by simp [hzv]
                        have heb2 : ∀ j (h : j < b.length), k ≤ j → j < k' + 1 → b[j].v = xa := fun j h h1 h2 => by
                          rcases Nat.lt_or_ge j k' with h' | h'
                          · exact Heb.out j h h1 h'
                          · have : j = k' := by omega
                            subst this
                            rw [Hz.out]; exact hzv
                        have Heb2 := Lib.hid heb2
                        clear heb2 hzv
                        go_wp2_with fail
                        go_roundg (n' - (k' + 1))
                        case measure => omega
                        case rel => exact ⟨k' + 1, by omega, by omega, rfl, by go_num, Heb2.out, rfl⟩
                      · have d6 : (z == xa) = false := by simp [hzv]
                        have Hfb : Hid (∀ h : k' < b.length, b[k'].v ≠ xa) := Lib.hid fun _ => by rw [Hz.out]; exact hzv
                        clear hzv
                        have hst := bothI_step Ha.out Hb.out HI.out hii (by omega) hkk (by omega) Hea.out Heb.out Hfa.out Hfb.out Hv.out Hla.out Hlb.out
                        obtain ⟨hI2, hmv⟩ := hst
                        have HI2 := Lib.hid hI2
                        clear hI2
                        go_wp2_with (at_builtin; go_must (refine wpList_append_one w w1 rfl (.tmp 82) (.tmp 84) 35 rfl w.heap.size 3 i0 _ 1 8 Try.underlying35 hi0 hz0 hz1 hz2 rfl (by omega) (.slice A1 m c1) m (O.map (Value.int .i64)) rfl [.int .i64 xa] rfl (by intro u hu; simp at hu; subst hu; rfl) rfl Ho1.out (by unfold maxLen; omega) (by omega) Hbel1.out Hbel1.out.size ?_); intro A9 c9 w9 ho9 hbel9 hg9 hz9)
                        go_roundg ((n - i') + (n' - k'))
                        case measure => omega
                        case rel => exact ⟨i', k', m + 1, A9, c9, O ++ [xa], by omega, by omega, rfl, rfl, rfl, rfl, by omega, by rw [List.map_append]; exact ho9, HI2.out, hbel9⟩
                  · have d5 : decide (k' < n') = false := by simpa using hkn2
                    have Hfb : Hid (∀ h : k' < b.length, b[k'].v ≠ xa) := Lib.hid fun h => absurd h (by omega)
                    have hst := bothI_step Ha.out Hb.out HI.out hii (by omega) hkk (by omega) Hea.out Heb.out Hfa.out Hfb.out Hv.out Hla.out Hlb.out
                    obtain ⟨hI2, hmv⟩ := hst
                    have HI2 := Lib.hid hI2
                    clear hI2
                    go_wp2_with (at_builtin; go_must (refine wpList_append_one w w1 rfl (.tmp 82) (.tmp 84) 35 rfl w.heap.size 3 i0 _ 1 8 Try.underlying35 hi0 hz0 hz1 hz2 rfl (by omega) (.slice A1 m c1) m (O.map (Value.int .i64)) rfl [.int .i64 xa] rfl (by intro u hu; simp at hu; subst hu; rfl) rfl Ho1.out (by unfold maxLen; omega) (by omega) Hbel1.out Hbel1.out.size ?_); intro A9 c9 w9 ho9 hbel9 hg9 hz9)
                    go_roundg ((n - i') + (n' - k'))
                    case measure => omega
                    case rel => exact ⟨i', k', m + 1, A9, c9, O ++ [xa], by omega, by omega, rfl, rfl, rfl, rfl, by omega, by rw [List.map_append]; exact ho9, HI2.out, hbel9⟩
          · have d3 : decide (i' < n) = false := by simpa using hin2
            have Hfa : Hid (∀ h : i' < a.length, a[i'].v ≠ xa) := Lib.hid fun h => absurd h (by omega)
            go_wp2_with fail
            go_loopg [7] (n' - k) (fun gh sk wr2 => ∃ k' : Nat, k ≤ k' ∧ k' ≤ n' ∧ gh = n' - k' ∧ sk = .int .i64 k' ∧ (∀ j (h : j < b.length), k ≤ j → j < k' → b[j].v = xa) ∧ w1 = wr2)
            case atStart => exact ⟨k, Nat.le_refl _, hk, rfl, rfl, fun j _ h1 h2 => absurd h1 (by omega), rfl⟩
            case round =>
              obtain ⟨k', hkk, hkl, rfl, rfl, heb, rfl⟩ := hrel
              have Heb := Lib.hid heb
              clear heb
              by_cases hkn2 : k' < n'
              · try (exfalso; omega)
                all_goals
                  have d5 : decide (k' < n') = true := by simpa using hkn2
                  obtain ⟨b3, o3, q3, hb3, hc3⟩ := (Hy.out.below Hbel1.out).at_ (by omega)
                  cases q3
                  have hkb : k' < b.length := by omega
                  have z0 := (hc3 k' hkb).1
                  obtain ⟨z, hz⟩ : ∃ z, b[k'].v = z := ⟨_, rfl⟩
                  rw [hz] at z0
                  have Hz := Lib.hid hz
                  have l1 : (0 : Int) ≤ (k' : Int) := by omega
                  have l2 : (k' : Int) < n' := by omega
                  clear hc3 hz
                  by_cases hzv : z = xa
                  · have d6 : (z == xa) = true := by simp [hzv]
                    have heb2 : ∀ j (h : j < b.length), k ≤ j → j < k' + 1 → b[j].v = xa := fun j h h1 h2 => by
                      rcases Nat.lt_or_ge j k' with h' | h'
                      · exact Heb.out j h h1 h'
                      · have : j = k' := by omega
                        subst this
                        rw [Hz.out]; exact hzv
                    have Heb2 := Lib.hid heb2
                    clear heb2 hzv
                    go_wp2_with fail
                    go_roundg (n' - (k' + 1))
                    case measure => omega
                    case rel => exact ⟨k' + 1, by omega, by omega, rfl, by go_num, Heb2.out, rfl⟩
                  · have d6 : (z == xa) = false := by simp [hzv]
                    have Hfb : Hid (∀ h : k' < b.length, b[k'].v ≠ xa) := Lib.hid fun _ => by rw [Hz.out]; exact hzv
                    clear hzv
                    have hst := bothI_step Ha.out Hb.out HI.out hii (by omega) hkk (by omega) Hea.out Heb.out Hfa.out Hfb.out Hv.out Hla.out Hlb.out
                    obtain ⟨hI2, hmv⟩ := hst
                    have HI2 := Lib.hid hI2
                    clear hI2
                    go_wp2_with (at_builtin; go_must (refine wpList_append_one w w1 rfl (.tmp 82) (.tmp 84) 35 rfl w.heap.size 3 i0 _ 1 8 Try.underlying35 hi0 hz0 hz1 hz2 rfl (by omega) (.slice A1 m c1) m (O.map (Value.int .i64)) rfl [.int .i64 xa] rfl (by intro u hu; simp at hu; subst hu; rfl) rfl Ho1.out (by unfold maxLen; omega) (by omega) Hbel1.out Hbel1.out.size ?_); intro A9 c9 w9 ho9 hbel9 hg9 hz9)
                    go_roundg ((n - i') + (n' - k'))
                    case measure => omega
                    case rel => exact ⟨i', k', m + 1, A9, c9, O ++ [xa], by omega, by omega, rfl, rfl, rfl, rfl, by omega, by rw [List.map_append]; exact ho9, HI2.out, hbel9⟩
              · have d5 : decide (k' < n') = false := by simpa using hkn2
                have Hfb : Hid (∀ h : k' < b.length, b[k'].v ≠ xa) := Lib.hid fun h => absurd h (by omega)
                have hst := bothI_step Ha.out Hb.out HI.out hii (by omega) hkk (by omega) Hea.out Heb.out Hfa.out Hfb.out Hv.out Hla.out Hlb.out
                obtain ⟨hI2, hmv⟩ := hst
                have HI2 := Lib.hid hI2
                clear hI2
                go_wp2_with (at_builtin; go_must (refine wpList_append_one w w1 rfl (.tmp 82) (.tmp 84) 35 rfl w.heap.size 3 i0 _ 1 8 Try.underlying35 hi0 hz0 hz1 hz2 rfl (by omega) (.slice A1 m c1) m (O.map (Value.int .i64)) rfl [.int .i64 xa] rfl (by intro u hu; simp at hu; subst hu; rfl) rfl Ho1.out (by unfold maxLen; omega) (by omega) Hbel1.out Hbel1.out.size ?_); intro A9 c9 w9 ho9 hbel9 hg9 hz9)
                go_roundg ((n - i') + (n' - k'))
                case measure => omega
                case rel => exact ⟨i', k', m + 1, A9, c9, O ++ [xa], by omega, by omega, rfl, rfl, rfl, rfl, by omega, by rw [List.map_append]; exact ho9, HI2.out, hbel9⟩
    · have di : decide (i < n) = false := by simpa using hin
      by_cases hkn : k < n'
      · have dk : decide (n' ≤ k) = false := by simpa using hkn
        have dk2 : decide (k < n') = true := by simpa using hkn
        obtain ⟨bb, ob, xb, rfl, eb, hbl2, hxb⟩ := Hcb.out hkn
        have kk2 : (k : Int) < n' := by omega
        have Hv : Hid ((∃ h : i < a.length, a[i].v = xb) ∨ (∃ h : k < b.length, b[k].v = xb)) := Lib.hid (.inr ⟨hbl2, hxb⟩)
        have Hla : Hid (∀ h : i < a.length, xb ≤ a[i].v) := Lib.hid fun h => absurd h (by omega)
        have Hlb : Hid (∀ h : k < b.length, xb ≤ b[k].v) := Lib.hid fun _ => by rw [hxb]; exact Int.le_refl _
        clear hxb
        go_wp2_with fail
        go_quiet (fail)
        go_wp2_with fail
        have hbq := below_drewN_t (Below.refl wr.heap.size wr) nq
        obtain ⟨w1, hw1⟩ : ∃ w1, wr.drewN nq = w1 := ⟨_, rfl⟩
        rw [hw1] at hbq ⊢
        have Ho1 := Lib.hid (ownsRow_beyond Ho.out hbq)
        have Hbel1 := Lib.hid (Hbel.out.trans (hbq.mono Hbel.out.size))
        clear hbq hw1
        try clear ea
        try clear eb
        go_loopg [6] (n - i) (fun gh si wr2 => ∃ i' : Nat, i ≤ i' ∧ i' ≤ n ∧ gh = n - i' ∧ si = .int .i64 i' ∧ (∀ j (h : j < a.length), i ≤ j → j < i' → a[j].v = xb) ∧ w1 = wr2)
        case atStart => exact ⟨i, Nat.le_refl _, hi, rfl, rfl, fun j _ h1 h2 => absurd h1 (by omega), rfl⟩
        case round =>
          obtain ⟨i', hii, hil, rfl, rfl, hea, rfl⟩ := hrel
          have Hea := Lib.hid hea
          clear hea
          by_cases hin2 : i' < n
          · try (exfalso; omega)
            all_goals
              have d3 : decide (i' < n) = true := by simpa using hin2
              obtain ⟨b2, o2, q2, hb2, hc2⟩ := (Hx.out.below Hbel1.out).at_ (by omega)
              cases q2
              have hia : i' < a.length := by omega
              have y0 := (hc2 i' hia).1
              obtain ⟨y, hy⟩ : ∃ y, a[i'].v = y := ⟨_, rfl⟩
              rw [hy] at y0
              have HY := Lib.hid hy
              have j1 : (0 : Int) ≤ (i' : Int) := by omega
              have j2 : (i' : Int) < n := by omega
              clear hc2 hy
              by_cases hyv : y = xb
              · have d4 : (y == xb) = true := by simp [hyv]
                have hea2 : ∀ j (h : j < a.length), i ≤ j → j < i' + 1 → a[j].v = xb := fun j h h1 h2 => by
                  rcases Nat.lt_or_ge j i' with h' | h'
                  · exact Hea.out j h h1 h'
                  · have : j = i' := by omega
                    subst this
                    rw [HY.out]; exact hyv
                have Hea2 := Lib.hid hea2
                clear hea2 hyv
                go_wp2_with fail
                go_roundg (n - (i' + 1))
                case measure => omega
                case rel => exact ⟨i' + 1, by omega, by omega, rfl, by go_num, Hea2.out, rfl⟩
              · have d4 : (y == xb) = false := by simp [hyv]
                have Hfa : Hid (∀ h : i' < a.length, a[i'].v ≠ xb) := Lib.hid fun _ => by rw [HY.out]; exact hyv
                clear hyv
                go_wp2_with fail
                go_loopg [7] (n' - k) (fun gh sk wr2 => ∃ k' : Nat, k ≤ k' ∧ k' ≤ n' ∧ gh = n' - k' ∧ sk = .int .i64 k' ∧ (∀ j (h : j < b.length), k ≤ j → j < k' → b[j].v = xb) ∧ w1 = wr2)
                case atStart => exact ⟨k, Nat.le_refl _, hk, rfl, rfl, fun j _ h1 h2 => absurd h1 (by omega), rfl⟩
                case round =>
                  obtain ⟨k', hkk, hkl, rfl, rfl, heb, rfl⟩ := hrel
                  have Heb := Lib.hid heb
                  clear heb
                  by_cases hkn2 : k' < n'
                  · try (exfalso; omega)
                    all_goals
                      have d5 : decide (k' < n') = true := by simpa using hkn2
                      obtain ⟨b3, o3, q3, hb3, hc3⟩ := (Hy.out.below Hbel1.out).at_ (by omega)
                      cases q3
                      have hkb : k' < b.length := by omega
                      have z0 := (hc3 k' hkb).1
                      obtain ⟨z, hz⟩ : ∃ z, b[k'].v = z := ⟨_, rfl⟩
                      rw [hz] at z0
                      have Hz := Lib.hid hz
                      have l1 : (0 : Int) ≤ (k' : Int) := by omega
                      have l2 : (k' : Int) < n' := by omega
                      clear hc3 hz
                      by_cases hzv : z = xb
                      · have d6 : (z == xb) = true := by simp [hzv]
                        have heb2 : ∀ j (h : j < b.length), k ≤ j → j < k' + 1 → b[j].v = xb := fun j h h1 h2 => by
                          rcases Nat.lt_or_ge j k' with h' | h'
                          · exact Heb.out j h h1 h'
                          · have : j = k' := by omega
                            subst this
                            rw [Hz.out]; exact hzv
                        have Heb2 := Lib.hid heb2
                        clear heb2 hzv
                        go_wp2_with fail
                        go_roundg (n' - (k' + 1))
                        case measure => omega
                        case rel => exact ⟨k' + 1, by omega, by omega, rfl, by go_num, Heb2.out, rfl⟩
                      · have d6 : (z == xb) = false := by simp [hzv]
                        have Hfb : Hid (∀ h : k' < b.length, b[k'].v ≠ xb) := Lib.hid fun _ => by rw [Hz.out]; exact hzv
                        clear hzv
                        have hst := bothI_step Ha.out Hb.out HI.out hii (by omega) hkk (by omega) Hea.out Heb.out Hfa.out Hfb.out Hv.out Hla.out Hlb.out
                        obtain ⟨hI2, hmv⟩ := hst
                        have HI2 := Lib.hid hI2
                        clear hI2
                        go_wp2_with (at_builtin; go_must (refine wpList_append_one w w1 rfl (.tmp 82) (.tmp 84) 35 rfl w.heap.size 3 i0 _ 1 8 Try.underlying35 hi0 hz0 hz1 hz2 rfl (by omega) (.slice A1 m c1) m (O.map (Value.int .i64)) rfl [.int .i64 xb] rfl (by intro u hu; simp at hu; subst hu; rfl) rfl Ho1.out (by unfold maxLen; omega) (by omega) Hbel1.out Hbel1.out.size ?_); intro A9 c9 w9 ho9 hbel9 hg9 hz9)
                        go_roundg ((n - i') + (n' - k'))
                        case measure => omega
                        case rel => exact ⟨i', k', m + 1, A9, c9, O ++ [xb], by omega, by omega, rfl, rfl, rfl, rfl, by omega, by rw [List.map_append]; exact ho9, HI2.out, hbel9⟩
                  · have d5 : decide (k' < n') = false := by simpa using hkn2
                    have Hfb : Hid (∀ h : k' < b.length, b[k'].v ≠ xb) := Lib.hid fun h => absurd h (by omega)
                    have hst := bothI_step Ha.out Hb.out HI.out hii (by omega) hkk (by omega) Hea.out Heb.out Hfa.out Hfb.out Hv.out Hla.out Hlb.out
                    obtain ⟨hI2, hmv⟩ := hst
                    have HI2 := Lib.hid hI2
                    clear hI2
                    go_wp2_with (at_builtin; go_must (refine wpList_append_one w w1 rfl (.tmp 82) (.tmp 84) 35 rfl w.heap.size 3 i0 _ 1 8 Try.underlying35 hi0 hz0 hz1 hz2 rfl (by omega) (.slice A1 m c1) m (O.map (Value.int .i64)) rfl [.int .i64 xb] rfl (by intro u hu; simp at hu; subst hu; rfl) rfl Ho1.out (by unfold maxLen; omega) (by omega) Hbel1.out Hbel1.out.size ?_); intro A9 c9 w9 ho9 hbel9 hg9 hz9)
                    go_roundg ((n - i') + (n' - k'))
                    case measure => omega
                    case rel => exact ⟨i', k', m + 1, A9, c9, O ++ [xb], by omega, by omega, rfl, rfl, rfl, rfl, by omega, by rw [List.map_append]; exact ho9, HI2.out, hbel9⟩
          · have d3 : decide (i' < n) = false := by simpa using hin2
            have Hfa : Hid (∀ h : i' < a.length, a[i'].v ≠ xb) := Lib.hid fun h => absurd h (by omega)
            go_wp2_with fail
            go_loopg [7] (n' - k) (fun gh sk wr2 => ∃ k' : Nat, k ≤ k' ∧ k' ≤ n' ∧ gh = n' - k' ∧ sk = .int .i64 k' ∧ (∀ j (h : j < b.length), k ≤ j → j < k' → b[j].v = xb) ∧ w1 = wr2)
            case atStart => exact ⟨k, Nat.le_refl _, hk, rfl, rfl, fun j _ h1 h2 => absurd h1 (by omega), rfl⟩
            case round =>
              obtain ⟨k', hkk, hkl, rfl, rfl, heb, rfl⟩ := hrel
              have Heb := Lib.hid heb
              clear heb
              by_cases hkn2 : k' < n'
              · try (exfalso; omega)
                all_goals
                  have d5 : decide (k' < n') = true := by simpa using hkn2
                  obtain ⟨b3, o3, q3, hb3, hc3⟩ := (Hy.out.below Hbel1.out).at_ (by omega)
                  cases q3
                  have hkb : k' < b.length := by omega
                  have z0 := (hc3 k' hkb).1
                  obtain ⟨z, hz⟩ : ∃ z, b[k'].v = z := ⟨_, rfl⟩
                  rw [hz] at z0
                  have Hz := Lib.hid hz
                  have l1 : (0 : Int) ≤ (k' : Int) := by omega
                  have l2 : (k' : Int) < n' := by omega
                  clear hc3 hz
                  by_cases hzv : z = xb
                  · have d6 : (z == xb) = true := by simp [hzv]
                    have heb2 : ∀ j (h : j < b.length), k ≤ j → j < k' + 1 → b[j].v = xb := fun j h h1 h2 => by
                      rcases Nat.lt_or_ge j k' with h' | h'
                      · exact Heb.out j h h1 h'
                      · have : j = k' := by omega
                        subst this
                        rw [Hz.out]; exact hzv
                    have Heb2 := Lib.hid heb2
                    clear heb2 hzv
                    go_wp2_with fail
                    go_roundg (n' - (k' + 1))
                    case measure => omega
                    case rel => exact ⟨k' + 1, by omega, by omega, rfl, by go_num, Heb2.out, rfl⟩
                  · have d6 : (z == xb) = false := by simp [hzv]
                    have Hfb : Hid (∀ h : k' < b.length, b[k'].v ≠ xb) := Lib.hid fun _ => by rw [Hz.out]; exact hzv
                    clear hzv
                    have hst := bothI_step Ha.out Hb.out HI.out hii (by omega) hkk (by omega) Hea.out Heb.out Hfa.out Hfb.out Hv.out Hla.out Hlb.out
                    obtain ⟨hI2, hmv⟩ := hst
                    have HI2 := Lib.hid hI2
                    clear hI2
                    go_wp2_with (at_builtin; go_must (refine wpList_append_one w w1 rfl (.tmp 82) (.tmp 84) 35 rfl w.heap.size 3 i0 _ 1 8 Try.underlying35 hi0 hz0 hz1 hz2 rfl (by omega) (.slice A1 m c1) m (O.map (Value.int .i64)) rfl [.int .i64 xb] rfl (by intro u hu; simp at hu; subst hu; rfl) rfl Ho1.out (by unfold maxLen; omega) (by omega) Hbel1.out Hbel1.out.size ?_); intro A9 c9 w9 ho9 hbel9 hg9 hz9)
                    go_roundg ((n - i') + (n' - k'))
                    case measure => omega
                    case rel => exact ⟨i', k', m + 1, A9, c9, O ++ [xb], by omega, by omega, rfl, rfl, rfl, rfl, by omega, by rw [List.map_append]; exact ho9, HI2.out, hbel9⟩
              · have d5 : decide (k' < n') = false := by simpa using hkn2
                have Hfb : Hid (∀ h : k' < b.length, b[k'].v ≠ xb) := Lib.hid fun h => absurd h (by omega)
                have hst := bothI_step Ha.out Hb.out HI.out hii (by omega) hkk (by omega) Hea.out Heb.out Hfa.out Hfb.out Hv.out Hla.out Hlb.out
                obtain ⟨hI2, hmv⟩ := hst
                have HI2 := Lib.hid hI2
                clear hI2
                go_wp2_with (at_builtin; go_must (refine wpList_append_one w w1 rfl (.tmp 82) (.tmp 84) 35 rfl w.heap.size 3 i0 _ 1 8 Try.underlying35 hi0 hz0 hz1 hz2 rfl (by omega) (.slice A1 m c1) m (O.map (Value.int .i64)) rfl [.int .i64 xb] rfl (by intro u hu; simp at hu; subst hu; rfl) rfl Ho1.out (by unfold maxLen; omega) (by omega) Hbel1.out Hbel1.out.size ?_); intro A9 c9 w9 ho9 hbel9 hg9 hz9)
                go_roundg ((n - i') + (n' - k'))
                case measure => omega
                case rel => exact ⟨i', k', m + 1, A9, c9, O ++ [xb], by omega, by omega, rfl, rfl, rfl, rfl, by omega, by rw [List.map_append]; exact ho9, HI2.out, hbel9⟩
      · have dk2 : decide (k < n') = false := by simpa using hkn
        have hO := bothI_end HI.out (by omega) (by omega)
        have hrd := RdI.of_own Ho.out
        rw [hO] at hrd
        have Hrd := Lib.hid hrd
        clear hO hrd
        go_wp2_with fail
        go_ret
        exact ⟨A1, m, c1, rfl, Hrd.out, Hbel.out⟩

end Go.Proofs.Ytimlbpjdgnapoaa

/- usufructref17: Join, Sum, Scale, Times, of uses that may be. -/
namespace Go.Proofs.Ytimlbpjdgnapoaa
set_option linter.unusedVariables false
set_option linter.unusedSimpArgs false
open Go.RowKit

theorem pair_some {F : List TermD → TermD} (hF : EachF F) {a b : List UseD} (ha : Good a) (hb : Good b) {v : Int} (hv : v ∈ varsOf [a, b]) : (F [ofU a v, ofU b v]).never = false := by
  obtain ⟨l, hl, hn⟩ := (mem_varsOf_of (ls := [a, b]) (by simp [ha, hb]) v).1 hv
  refine hF.some _ (ofU l v) ?_ hn
  simp only [List.mem_cons, List.not_mem_nil, or_false] at hl ⊢
  rcases hl with rfl | rfl
  · exact .inl rfl
  · exact .inr rfl

set_option maxRecDepth 100000 in
set_option maxHeartbeats 4000000 in
theorem refJoinU_any (A : Option Addr) (n c : Nat) (a : List UseD) (A' : Option Addr) (n' c' : Nat) (b : List UseD) (w : World) (hx : UsesV w w.heap.size A n c a) (hy : UsesV w w.heap.size A' n' c' b) (ha : Good a) (hb : Good b) :
    Calls Try.prog 13 #[.slice A n c, .slice A' n' c'] w (RetU (eachU joinT [a, b]) w) := by
  have hq := bothU_any A n c a A' n' c' b w hx hy ha hb
  have hE : eachU joinT [a, b] = (sset (varsOf [a, b])).map fun v => ⟨v, joinT [ofU a v, ofU b v]⟩ := rfl
  have hpos : ∀ v ∈ sset (varsOf [a, b]), (joinT [ofU a v, ofU b v]).never = false := fun v hv => pair_some eachJoin ha hb (((sset_rises _).2 v).1 hv)
  have hrr : ∀ v, rJoin (ofU a v) (ofU b v) = joinT [ofU a v, ofU b v] := fun v => rJoin_two (mayU_ofU ha.mayU v) (mayU_ofU hb.mayU v)
  have hbig : ∀ v, (ofU a v).vars.length + (ofU b v).vars.length ≤ 1099511627776 := fun v => by
    have h1 := may_vars_len (mayU_ofU ha.mayU v)
    have h2 := may_vars_len (mayU_ofU hb.mayU v)
    omega
  have hlen : (sset (varsOf [a, b])).length ≤ 1048576 := by
    refine rises_len (sset_rises _).1 fun v hv => ?_
    obtain ⟨l, hl, x, hxl, rfl⟩ := varsOf_mem.1 (((sset_rises _).2 v).1 hv)
    simp only [List.mem_cons, List.not_mem_nil, or_false] at hl
    rcases hl with rfl | rfl
    · exact ha.rng x hxl
    · exact hb.rng x hxl
  rw [hE]
  obtain ⟨V, hV⟩ : ∃ V, sset (varsOf [a, b]) = V := ⟨_, rfl⟩
  rw [hV] at hq hpos hlen ⊢
  have Hq := Lib.hid hq
  have Hpos := Lib.hid hpos
  have Hrr := Lib.hid hrr
  have Hbig := Lib.hid hbig
  have Hlen := Lib.hid hlen
  have Hx := Lib.hid hx
  have Hy := Lib.hid hy
  clear hx hy ha hb hq hE hpos hrr hbig hV
  go_enter Try.func13, Try.ntmps13
  go_wp2_with fail
  refine Hq.out.mono ?_; rintro e w1 ⟨A1, m, c1, rfl, hr1, hb1⟩
  have hm := hr1.len
  have m63 : m ≤ 9223372036854775807 := by omega
  have Hr1 := Lib.hid hr1
  have Hb1 := Lib.hid hb1
  clear hr1 hb1 Hq
  go_wp2_with fail
  go_loopg [5, 7] m (fun gh o i wr => ∃ k : Nat, k ≤ m ∧ gh = m - k ∧ i = .int .i64 k ∧ OwnU wr w1.heap.size o k ((V.take k).map fun v => ⟨v, joinT [ofU a v, ofU b v]⟩) ∧ Below w1.heap.size w1 wr)
  case atStart => exact ⟨0, Nat.zero_le _, rfl, rfl, OwnU.nil _ _, Below.refl _ _⟩
  case round =>
    obtain ⟨k, hk, rfl, rfl, ho, hbel⟩ := hrel
    obtain ⟨A2, c2, rfl⟩ := ho.form
    by_cases hkm : k < m
    · have d0 : decide (k < m) = true := by simpa using hkm
      have hk' : k < V.length := by omega
      obtain ⟨bl, ol, q, hbl, hc⟩ := (Hr1.out.below hbel).at_ (by omega)
      subst q
      have v0 := hc k hk'
      have hstep : (V.take (k + 1)).map (fun v => (⟨v, joinT [ofU a v, ofU b v]⟩ : UseD)) = (V.take k).map (fun v => ⟨v, joinT [ofU a v, ofU b v]⟩) ++ [⟨V[k], joinT [ofU a V[k], ofU b V[k]]⟩] := by rw [List.take_succ_eq_append_getElem hk', List.map_append]; rfl
      have hnv := Hpos.out V[k] (List.getElem_mem hk')
      obtain ⟨v, hv⟩ : ∃ v, V[k] = v := ⟨_, rfl⟩
      rw [hv] at v0 hstep hnv
      obtain ⟨wa, hwa⟩ : ∃ wa, wa = wr.drew := ⟨_, rfl⟩
      have hbelA : Below w1.heap.size w1 wa := by rw [hwa]; exact hbel.drew
      have hoA : OwnU wa w1.heap.size (.slice A2 k c2) k ((V.take k).map fun v => ⟨v, joinT [ofU a v, ofU b v]⟩) := by rw [hwa]; exact ho.beyond ((Below.refl _ _).drew)
      have hx1 := Hx.out.below (Hb1.out.trans (hbelA.mono Hb1.out.size))
      have hy1 := Hy.out.below (Hb1.out.trans (hbelA.mono Hb1.out.size))
      have hB1 : w.heap.size ≤ wa.heap.size := Nat.le_trans Hb1.out.size hbelA.size
      have hq1 := refOf_any w.heap.size v A n c a wa hx1 hB1
      rw [hwa] at hq1
      have Hq1 := Lib.hid hq1
      have Hy1 := Lib.hid hy1
      have Hst := Lib.hid hstep
      have Hnv := Lib.hid hnv
      have HbelA := Lib.hid hbelA
      have HoA := Lib.hid hoA
      have HB1 := Lib.hid hB1
      have hbl2 : bl < wa.heap.size := Nat.lt_of_lt_of_le hbl hbelA.size
      have va : wa.cell? ⟨bl, ol + k, none⟩ = some (.int .i64 v) := by rw [hwa]; exact v0
      have Hwa := Lib.hid hwa
      have k1 : (0 : Int) ≤ (k : Int) := by omega
      have k2 : (k : Int) < m := by omega
      have hsz : wr.heap.size = wa.heap.size := by rw [hwa]; rfl
      clear hc hstep hnv hv hq1 hbelA hoA hx1 hy1 hB1 ho hbel hwa
      go_wp2_with fail
      go_region_held3 (fun w' => w'.cell? ⟨bl, ol + k, none⟩ = some (.int .i64 v))
        (first | go_keep | exact va | exact vb2 | exact vc2 | exact vd2 | exact ve2)
        ((first | (go_at_call_of 26 (Value.slice A n c); refine Hq1.out.mono ?_; rintro e wb ⟨Ab, nb, cb, rfl, hrb, hbb⟩; rw [← Hwa.out] at hbb; have vb2 := (hbb.cell (p := ⟨bl, ol + k, none⟩) hbl2).trans va; have Hrb := Lib.hid hrb; have Hbb := Lib.hid hbb; clear hrb hbb) | (go_at_call 26; have hbl3 := Nat.lt_of_lt_of_le hbl2 Hbb.out.size; have hb0 := Hbb.out; refine (refOf_any w.heap.size v A' n' c' b wb (Hy1.out.below (hb0.mono HB1.out)) (Nat.le_trans HB1.out hb0.size)).mono ?_; rintro e wc ⟨Ac, nc, cc, rfl, hrc, hbc⟩; have vc2 := (hbc.cell (p := ⟨bl, ol + k, none⟩) hbl3).trans vb2; have Hrc := Lib.hid hrc; have Hbc := Lib.hid hbc; clear hrc hbc hb0) | (go_at_call 48; have hbl4 := Nat.lt_of_lt_of_le hbl3 Hbc.out.size; have hb0 := Hbb.out; have hc0 := Hbc.out; have hj := refJoin_g (.agg #[.bool (ofU a v).never, .int .u8 (ofU a v).c, .slice Ab nb cb]) (.agg #[.bool (ofU b v).never, .int .u8 (ofU b v).c, .slice Ac nc cc]) (ofU a v) (ofU b v) wc w.heap.size ⟨Ab, nb, cb, rfl, Hrb.out.below (hc0.mono (Nat.le_trans HB1.out hb0.size))⟩ ⟨Ac, nc, cc, rfl, Hrc.out⟩ (Nat.le_trans HB1.out (Nat.le_trans hb0.size hc0.size)) (Hbig.out v); rw [Hrr.out v] at hj; refine hj.mono ?_; clear hj; rintro e wd ⟨Ad, nd, cd, rfl, hrd, hbd, hfd⟩; have vd2 := (hbd.cell (p := ⟨bl, ol + k, none⟩) hbl4).trans vc2; have Hrd := Lib.hid hrd; have Hbd := Lib.hid hbd; have Hfd := Lib.hid hfd; clear hrd hbd hb0 hc0 hfd) | (go_at_call 47; have hacd : Below wa.heap.size wa wd := (Hbb.out.trans (Hbc.out.mono Hbb.out.size)).trans (Hbd.out.mono (Nat.le_trans Hbb.out.size Hbc.out.size)); have hac : wa.heap.size ≤ wc.heap.size := Nat.le_trans Hbb.out.size Hbc.out.size; have hlt := HoA.out.lt; have h1a : w1.heap.size ≤ wa.heap.size := HbelA.out.size; have h01 : w.heap.size ≤ w1.heap.size := Hb1.out.size; refine (put_any w1.heap.size k (.slice A2 k c2) _ v (joinT [ofU a v, ofU b v]) Ad nd cd w1 wd (HoA.out.beyond hacd) (by omega) Hnv.out Hrd.out (fun h => (by obtain ⟨p, e, hp⟩ := Hfd.out h; refine ⟨p, e, fun e' => ?_⟩; have := hlt _ e'.symm; omega)) (HbelA.out.trans (hacd.mono HbelA.out.size)) (Nat.le_trans h1a hacd.size)).mono ?_; rintro e we ⟨A5, c5, rfl, ho5, hb5, -⟩; have ve2 := (hb5.cell (p := ⟨bl, ol + k, none⟩) hbl).trans ((HbelA.out.cell (p := ⟨bl, ol + k, none⟩) hbl).symm.trans va); have Ho5 := Lib.hid ho5; have Hb5 := Lib.hid hb5; clear ho5 hb5 hacd hac hlt h1a h01)))
      clear va vb2 vc2 vd2 ve2 hbl2 hbl3 hbl4
      go_wp2_with fail
      go_roundg (m - (k + 1))
      case measure => omega
      case rel => exact ⟨k + 1, by omega, rfl, by go_num, by rw [Hst.out]; exact Ho5.out, Hb5.out⟩
    · have d0 : decide (k < m) = false := by simpa using hkm
      rw [List.take_of_length_le (by omega)] at ho
      have hkm' : k = V.length := by omega
      have HU := Lib.hid ho.uses.2
      have Hbel := Lib.hid (Hb1.out.trans (hbel.mono Hb1.out.size))
      clear ho hbel
      go_wp2_with fail
      go_ret
      exact ⟨A2, k, c2, rfl, HU.out, Hbel.out⟩
set_option maxRecDepth 100000 in
set_option maxHeartbeats 4000000 in
theorem refSumU_any (A : Option Addr) (n c : Nat) (a : List UseD) (A' : Option Addr) (n' c' : Nat) (b : List UseD) (w : World) (hx : UsesV w w.heap.size A n c a) (hy : UsesV w w.heap.size A' n' c' b) (ha : Good a) (hb : Good b) :
    Calls Try.prog 14 #[.slice A n c, .slice A' n' c'] w (RetU (eachU sumT [a, b]) w) := by
  have hq := bothU_any A n c a A' n' c' b w hx hy ha hb
  have hE : eachU sumT [a, b] = (sset (varsOf [a, b])).map fun v => ⟨v, sumT [ofU a v, ofU b v]⟩ := rfl
  have hpos : ∀ v ∈ sset (varsOf [a, b]), (sumT [ofU a v, ofU b v]).never = false := fun v hv => pair_some eachSum ha hb (((sset_rises _).2 v).1 hv)
  have hrr : ∀ v, rSum (ofU a v) (ofU b v) = sumT [ofU a v, ofU b v] := fun v => rSum_two (mayU_ofU ha.mayU v) (mayU_ofU hb.mayU v)
  have hbig : ∀ v, (ofU a v).vars.length + (ofU b v).vars.length ≤ 1099511627776 := fun v => by
    have h1 := may_vars_len (mayU_ofU ha.mayU v)
    have h2 := may_vars_len (mayU_ofU hb.mayU v)
    omega
  have hlen : (sset (varsOf [a, b])).length ≤ 1048576 := by
    refine rises_len (sset_rises _).1 fun v hv => ?_
    obtain ⟨l, hl, x, hxl, rfl⟩ := varsOf_mem.1 (((sset_rises _).2 v).1 hv)
    simp only [List.mem_cons, List.not_mem_nil, or_false] at hl
    rcases hl with rfl | rfl
    · exact ha.rng x hxl
    · exact hb.rng x hxl
  rw [hE]
  obtain ⟨V, hV⟩ : ∃ V, sset (varsOf [a, b]) = V := ⟨_, rfl⟩
  rw [hV] at hq hpos hlen ⊢
  have Hq := Lib.hid hq
  have Hpos := Lib.hid hpos
  have Hrr := Lib.hid hrr
  have Hbig := Lib.hid hbig
  have Hlen := Lib.hid hlen
  have Hx := Lib.hid hx
  have Hy := Lib.hid hy
  clear hx hy ha hb hq hE hpos hrr hbig hV
  go_enter Try.func14, Try.ntmps14
  go_wp2_with fail
  refine Hq.out.mono ?_; rintro e w1 ⟨A1, m, c1, rfl, hr1, hb1⟩
  have hm := hr1.len
  have m63 : m ≤ 9223372036854775807 := by omega
  have Hr1 := Lib.hid hr1
  have Hb1 := Lib.hid hb1
  clear hr1 hb1 Hq
  go_wp2_with fail
  go_loopg [5, 7] m (fun gh o i wr => ∃ k : Nat, k ≤ m ∧ gh = m - k ∧ i = .int .i64 k ∧ OwnU wr w1.heap.size o k ((V.take k).map fun v => ⟨v, sumT [ofU a v, ofU b v]⟩) ∧ Below w1.heap.size w1 wr)
  case atStart => exact ⟨0, Nat.zero_le _, rfl, rfl, OwnU.nil _ _, Below.refl _ _⟩
  case round =>
    obtain ⟨k, hk, rfl, rfl, ho, hbel⟩ := hrel
    obtain ⟨A2, c2, rfl⟩ := ho.form
    by_cases hkm : k < m
    · have d0 : decide (k < m) = true := by simpa using hkm
      have hk' : k < V.length := by omega
      obtain ⟨bl, ol, q, hbl, hc⟩ := (Hr1.out.below hbel).at_ (by omega)
      subst q
      have v0 := hc k hk'
      have hstep : (V.take (k + 1)).map (fun v => (⟨v, sumT [ofU a v, ofU b v]⟩ : UseD)) = (V.take k).map (fun v => ⟨v, sumT [ofU a v, ofU b v]⟩) ++ [⟨V[k], sumT [ofU a V[k], ofU b V[k]]⟩] := by rw [List.take_succ_eq_append_getElem hk', List.map_append]; rfl
      have hnv := Hpos.out V[k] (List.getElem_mem hk')
      obtain ⟨v, hv⟩ : ∃ v, V[k] = v := ⟨_, rfl⟩
      rw [hv] at v0 hstep hnv
      obtain ⟨wa, hwa⟩ : ∃ wa, wa = wr.drew := ⟨_, rfl⟩
      have hbelA : Below w1.heap.size w1 wa := by rw [hwa]; exact hbel.drew
      have hoA : OwnU wa w1.heap.size (.slice A2 k c2) k ((V.take k).map fun v => ⟨v, sumT [ofU a v, ofU b v]⟩) := by rw [hwa]; exact ho.beyond ((Below.refl _ _).drew)
      have hx1 := Hx.out.below (Hb1.out.trans (hbelA.mono Hb1.out.size))
      have hy1 := Hy.out.below (Hb1.out.trans (hbelA.mono Hb1.out.size))
      have hB1 : w.heap.size ≤ wa.heap.size := Nat.le_trans Hb1.out.size hbelA.size
      have hq1 := refOf_any w.heap.size v A n c a wa hx1 hB1
      rw [hwa] at hq1
      have Hq1 := Lib.hid hq1
      have Hy1 := Lib.hid hy1
      have Hst := Lib.hid hstep
      have Hnv := Lib.hid hnv
      have HbelA := Lib.hid hbelA
      have HoA := Lib.hid hoA
      have HB1 := Lib.hid hB1
      have hbl2 : bl < wa.heap.size := Nat.lt_of_lt_of_le hbl hbelA.size
      have va : wa.cell? ⟨bl, ol + k, none⟩ = some (.int .i64 v) := by rw [hwa]; exact v0
      have Hwa := Lib.hid hwa
      have k1 : (0 : Int) ≤ (k : Int) := by omega
      have k2 : (k : Int) < m := by omega
      have hsz : wr.heap.size = wa.heap.size := by rw [hwa]; rfl
      clear hc hstep hnv hv hq1 hbelA hoA hx1 hy1 hB1 ho hbel hwa
      go_wp2_with fail
      go_region_held3 (fun w' => w'.cell? ⟨bl, ol + k, none⟩ = some (.int .i64 v))
        (first | go_keep | exact va | exact vb2 | exact vc2 | exact vd2 | exact ve2)
        ((first | (go_at_call_of 26 (Value.slice A n c); refine Hq1.out.mono ?_; rintro e wb ⟨Ab, nb, cb, rfl, hrb, hbb⟩; rw [← Hwa.out] at hbb; have vb2 := (hbb.cell (p := ⟨bl, ol + k, none⟩) hbl2).trans va; have Hrb := Lib.hid hrb; have Hbb := Lib.hid hbb; clear hrb hbb) | (go_at_call 26; have hbl3 := Nat.lt_of_lt_of_le hbl2 Hbb.out.size; have hb0 := Hbb.out; refine (refOf_any w.heap.size v A' n' c' b wb (Hy1.out.below (hb0.mono HB1.out)) (Nat.le_trans HB1.out hb0.size)).mono ?_; rintro e wc ⟨Ac, nc, cc, rfl, hrc, hbc⟩; have vc2 := (hbc.cell (p := ⟨bl, ol + k, none⟩) hbl3).trans vb2; have Hrc := Lib.hid hrc; have Hbc := Lib.hid hbc; clear hrc hbc hb0) | (go_at_call 49; have hbl4 := Nat.lt_of_lt_of_le hbl3 Hbc.out.size; have hb0 := Hbb.out; have hc0 := Hbc.out; have hj := refSum_g (.agg #[.bool (ofU a v).never, .int .u8 (ofU a v).c, .slice Ab nb cb]) (.agg #[.bool (ofU b v).never, .int .u8 (ofU b v).c, .slice Ac nc cc]) (ofU a v) (ofU b v) wc w.heap.size ⟨Ab, nb, cb, rfl, Hrb.out.below (hc0.mono (Nat.le_trans HB1.out hb0.size))⟩ ⟨Ac, nc, cc, rfl, Hrc.out⟩ (Nat.le_trans HB1.out (Nat.le_trans hb0.size hc0.size)) ; rw [Hrr.out v] at hj; refine hj.mono ?_; clear hj; rintro e wd ⟨Ad, nd, cd, rfl, hrd, hbd, hfd⟩; have vd2 := (hbd.cell (p := ⟨bl, ol + k, none⟩) hbl4).trans vc2; have Hrd := Lib.hid hrd; have Hbd := Lib.hid hbd; have Hfd := Lib.hid hfd; clear hrd hbd hb0 hc0 hfd) | (go_at_call 47; have hacd : Below wa.heap.size wa wd := (Hbb.out.trans (Hbc.out.mono Hbb.out.size)).trans (Hbd.out.mono (Nat.le_trans Hbb.out.size Hbc.out.size)); have hac : wa.heap.size ≤ wc.heap.size := Nat.le_trans Hbb.out.size Hbc.out.size; have hlt := HoA.out.lt; have h1a : w1.heap.size ≤ wa.heap.size := HbelA.out.size; have h01 : w.heap.size ≤ w1.heap.size := Hb1.out.size; refine (put_any w1.heap.size k (.slice A2 k c2) _ v (sumT [ofU a v, ofU b v]) Ad nd cd w1 wd (HoA.out.beyond hacd) (by omega) Hnv.out Hrd.out (fun h => (by obtain ⟨p, e, hp⟩ := Hfd.out h; refine ⟨p, e, fun e' => ?_⟩; have := hlt _ e'.symm; omega)) (HbelA.out.trans (hacd.mono HbelA.out.size)) (Nat.le_trans h1a hacd.size)).mono ?_; rintro e we ⟨A5, c5, rfl, ho5, hb5, -⟩; have ve2 := (hb5.cell (p := ⟨bl, ol + k, none⟩) hbl).trans ((HbelA.out.cell (p := ⟨bl, ol + k, none⟩) hbl).symm.trans va); have Ho5 := Lib.hid ho5; have Hb5 := Lib.hid hb5; clear ho5 hb5 hacd hac hlt h1a h01)))
      clear va vb2 vc2 vd2 ve2 hbl2 hbl3 hbl4
      go_wp2_with fail
      go_roundg (m - (k + 1))
      case measure => omega
      case rel => exact ⟨k + 1, by omega, rfl, by go_num, by rw [Hst.out]; exact Ho5.out, Hb5.out⟩
    · have d0 : decide (k < m) = false := by simpa using hkm
      rw [List.take_of_length_le (by omega)] at ho
      have hkm' : k = V.length := by omega
      have HU := Lib.hid ho.uses.2
      have Hbel := Lib.hid (Hb1.out.trans (hbel.mono Hb1.out.size))
      clear ho hbel
      go_wp2_with fail
      go_ret
      exact ⟨A2, k, c2, rfl, HU.out, Hbel.out⟩

set_option maxRecDepth 100000 in
set_option maxHeartbeats 4000000 in
theorem refScaleU_any (c v : Int) (A : Option Addr) (n cp : Nat) (l : List UseD) (w : World) (hx : UsesV w w.heap.size A n cp l) (hl : Good l) (hi : isB c v = true) :
    Calls Try.prog 30 #[.agg #[.int .i64 v, .int .u8 c], .slice A n cp] w (RetU (scaleU c v l) w) := by
  have hxl := hx.len
  have hn : n ≤ 1048576 := by rw [← hxl]; exact (mayU_rises hl.mayU).2
  have hmay := hl.may
  have hpos : ∀ x ∈ l, (scaleT c v x.t).never = false := fun x hx => by rw [scaleT_never]; exact (hmay x hx).1
  have hrr : ∀ x ∈ l, rScale c v x.t = scaleT c v x.t := fun x hx => rScale_eq hi (hmay x hx).2
  have hbig : ∀ x ∈ l, x.t.vars.length ≤ 1048576 := fun x hx => may_vars_len (hmay x hx).2
  rw [scaleU_eq hl]
  have hbx := below_box (w := w) (Obj.cells #[.int .i64 v, .int .u8 c] 46)
  have hz := blk_new w #[.int .i64 v, .int .u8 c] 46
  have hx0 := hx.below hbx
  have Hpos := Lib.hid hpos
  have Hrr := Lib.hid hrr
  have Hbig := Lib.hid hbig
  have Hx := Lib.hid hx0
  have Hz := Lib.hid hz
  have Hbx := Lib.hid hbx
  clear hx hl hi hmay hpos hrr hbig hbx hz hx0
  go_enter Try.func30, Try.ntmps30
  go_wp2_with fail
  obtain ⟨w1, hw1⟩ : ∃ w1, w.alloc (Obj.cells #[.int .i64 v, .int .u8 c] 46) = w1 := ⟨_, rfl⟩
  rw [hw1] at Hx Hz Hbx ⊢
  clear hw1
  go_loopg [5, 6] n (fun gh o i wr => ∃ k : Nat, k ≤ n ∧ gh = n - k ∧ i = .int .i64 k ∧ OwnU wr w1.heap.size o k ((l.take k).map fun x => ⟨x.v, scaleT c v x.t⟩) ∧ Below w1.heap.size w1 wr)
  case atStart => exact ⟨0, Nat.zero_le _, rfl, rfl, OwnU.nil _ _, Below.refl _ _⟩
  case round =>
    obtain ⟨k, hk, rfl, rfl, ho, hbel⟩ := hrel
    obtain ⟨A2, c2, rfl⟩ := ho.form
    by_cases hkm : k < n
    · have d0 : decide (k < n) = true := by simpa using hkm
      have hk' : k < l.length := by omega
      obtain ⟨bl, ol, q, hbl, hc⟩ := Hx.out.at_ (by omega)
      subst q
      obtain ⟨e0, Ax, nx, cx, e1, e2, e3, hrx⟩ := hc k hk'
      have hstep : (l.take (k + 1)).map (fun x => (⟨x.v, scaleT c v x.t⟩ : UseD)) = (l.take k).map (fun x => ⟨x.v, scaleT c v x.t⟩) ++ [⟨l[k].v, scaleT c v l[k].t⟩] := by rw [List.take_succ_eq_append_getElem hk', List.map_append]; rfl
      have hnv := Hpos.out l[k] (List.getElem_mem hk')
      have hrr := Hrr.out l[k] (List.getElem_mem hk')
      have hbig := Hbig.out l[k] (List.getElem_mem hk')
      obtain ⟨x, hxk⟩ : ∃ x, l[k] = x := ⟨_, rfl⟩
      rw [hxk] at e0 e1 e2 hrx hstep hnv hrr hbig
      replace e2 : w1.cell? ⟨bl, ol + k * 4 + 2, none⟩ = some (.int .u8 x.t.c) := e2
      replace e3 : w1.cell? ⟨bl, ol + k * 4 + 3, none⟩ = some (.slice Ax nx cx) := e3
      have q0 : w1.cell? ⟨w.heap.size, 0, none⟩ = some (.int .i64 v) := Hz.out.cell 0
      have q1 : w1.cell? ⟨w.heap.size, 1, none⟩ = some (.int .u8 c) := Hz.out.cell 1
      have hbl1 : bl < w1.heap.size := Nat.lt_of_lt_of_le hbl Hbx.out.size
      have hg1 : w.heap.size < w1.heap.size := Hz.out.lt
      obtain ⟨wa, hwa⟩ : ∃ wa, wa = wr.drew := ⟨_, rfl⟩
      have hbelA : Below w1.heap.size w1 wa := by rw [hwa]; exact hbel.drew
      have hoA : OwnU wa w1.heap.size (.slice A2 k c2) k ((l.take k).map fun x => ⟨x.v, scaleT c v x.t⟩) := by rw [hwa]; exact ho.beyond ((Below.refl _ _).drew)
      have a0 := (hbelA.cell (p := ⟨bl, ol + k * 4, none⟩) hbl1).trans e0
      have a1 := (hbelA.cell (p := ⟨bl, ol + k * 4 + 1, none⟩) hbl1).trans e1
      have a2 := (hbelA.cell (p := ⟨bl, ol + k * 4 + 2, none⟩) hbl1).trans e2
      have a3 := (hbelA.cell (p := ⟨bl, ol + k * 4 + 3, none⟩) hbl1).trans e3
      have a4 := (hbelA.cell (p := ⟨w.heap.size, 0, none⟩) hg1).trans q0
      have a5 := (hbelA.cell (p := ⟨w.heap.size, 1, none⟩) hg1).trans q1
      have hj := refScale_g c v (.agg #[.bool x.t.never, .int .u8 x.t.c, .slice Ax nx cx]) x.t wa w1.heap.size ⟨Ax, nx, cx, rfl, (hrx.more Hbx.out.size).below hbelA⟩ hbelA.size hbig
      rw [hrr, hwa] at hj
      have Hj := Lib.hid hj
      have Hst := Lib.hid hstep
      have Hnv := Lib.hid hnv
      have HbelA := Lib.hid hbelA
      have HoA := Lib.hid hoA
      have Hwa := Lib.hid hwa
      have r0 := (hbel.cell (p := ⟨bl, ol + k * 4, none⟩) hbl1).trans e0
      have r1 := (hbel.cell (p := ⟨bl, ol + k * 4 + 1, none⟩) hbl1).trans e1
      have r2 := (hbel.cell (p := ⟨bl, ol + k * 4 + 2, none⟩) hbl1).trans e2
      have r3 := (hbel.cell (p := ⟨bl, ol + k * 4 + 3, none⟩) hbl1).trans e3
      have r4 := (hbel.cell (p := ⟨w.heap.size, 0, none⟩) hg1).trans q0
      have r5 := (hbel.cell (p := ⟨w.heap.size, 1, none⟩) hg1).trans q1
      have k1 : (0 : Int) ≤ (k : Int) := by omega
      have k2 : (k : Int) < n := by omega
      clear hc hstep hnv hrr hbig hxk hj hbelA hoA ho hbel hwa e0 e1 e2 e3 q0 q1 hrx
      go_wp2_with fail
      go_region_held3 (fun w' => w'.cell? ⟨bl, ol + k * 4, none⟩ = some (.int .i64 x.v) ∧ w'.cell? ⟨bl, ol + k * 4 + 1, none⟩ = some (.bool x.t.never) ∧ w'.cell? ⟨bl, ol + k * 4 + 2, none⟩ = some (.int .u8 x.t.c) ∧ w'.cell? ⟨bl, ol + k * 4 + 3, none⟩ = some (.slice Ax nx cx) ∧ w'.cell? ⟨w.heap.size, 0, none⟩ = some (.int .i64 v) ∧ w'.cell? ⟨w.heap.size, 1, none⟩ = some (.int .u8 c))
        (first | go_keep | exact ⟨(hbdd.cell (p := ⟨bl, ol + k * 4, none⟩) hbl1).trans a0, (hbdd.cell (p := ⟨bl, ol + k * 4 + 1, none⟩) hbl1).trans a1, (hbdd.cell (p := ⟨bl, ol + k * 4 + 2, none⟩) hbl1).trans a2, (hbdd.cell (p := ⟨bl, ol + k * 4 + 3, none⟩) hbl1).trans a3, (hbdd.cell (p := ⟨w.heap.size, 0, none⟩) hg1).trans a4, (hbdd.cell (p := ⟨w.heap.size, 1, none⟩) hg1).trans a5⟩)
        ((first | (go_at_call 61; refine Hj.out.mono ?_; rintro e wd ⟨Ad, nd, cd, rfl, hrd, hbd, hfd⟩; rw [← Hwa.out] at hbd hfd; have hbdd : Below w1.heap.size wa wd := hbd.mono HbelA.out.size; have Hrd := Lib.hid hrd; have Hbd := Lib.hid hbd; have Hfd := Lib.hid hfd; clear hrd hbd hfd) | (go_at_call 47; have hacd : Below wa.heap.size wa wd := Hbd.out; have hlt := HoA.out.lt; have h1a : w1.heap.size ≤ wa.heap.size := HbelA.out.size; refine (put_any w1.heap.size k (.slice A2 k c2) _ x.v (scaleT c v x.t) Ad nd cd w1 wd (HoA.out.beyond hacd) (by omega) Hnv.out Hrd.out (fun h => (by obtain ⟨p, e, hp⟩ := Hfd.out h; refine ⟨p, e, fun e' => ?_⟩; have := hlt _ e'.symm; omega)) (HbelA.out.trans (hacd.mono HbelA.out.size)) (Nat.le_trans h1a hacd.size)).mono ?_; clear hbdd; rintro e we ⟨A5, c5, rfl, ho5, hb5, -⟩; have hbdd : Below w1.heap.size w1 we := hb5; replace a0 := (HbelA.out.cell (p := ⟨bl, ol + k * 4, none⟩) hbl1).symm.trans a0; replace a1 := (HbelA.out.cell (p := ⟨bl, ol + k * 4 + 1, none⟩) hbl1).symm.trans a1; replace a2 := (HbelA.out.cell (p := ⟨bl, ol + k * 4 + 2, none⟩) hbl1).symm.trans a2; replace a3 := (HbelA.out.cell (p := ⟨bl, ol + k * 4 + 3, none⟩) hbl1).symm.trans a3; replace a4 := (HbelA.out.cell (p := ⟨w.heap.size, 0, none⟩) hg1).symm.trans a4; replace a5 := (HbelA.out.cell (p := ⟨w.heap.size, 1, none⟩) hg1).symm.trans a5; have Ho5 := Lib.hid ho5; have Hb5 := Lib.hid hb5; clear ho5 hb5 hacd hlt h1a)))
      clear a0 a1 a2 a3 a4 a5 r0 r1 r2 r3 r4 r5 hbdd
      go_wp2_with fail
      go_roundg (n - (k + 1))
      case measure => omega
      case rel => exact ⟨k + 1, by omega, rfl, by go_num, by rw [Hst.out]; exact Ho5.out, Hb5.out⟩
    · have d0 : decide (k < n) = false := by simpa using hkm
      rw [List.take_of_length_le (by omega)] at ho
      have HU := Lib.hid ho.uses.2
      have Hbel := Lib.hid (Hbx.out.trans (hbel.mono Hbx.out.size))
      clear ho hbel
      have hkm' : k = n := by omega
      go_wp2_with fail
      go_ret
      exact ⟨A2, k, c2, rfl, HU.out, Hbel.out⟩

set_option maxRecDepth 100000 in
set_option maxHeartbeats 4000000 in
theorem refTimesU_any (A0 : Option Addr) (n0 c0 : Nat) (t : TermD) (A : Option Addr) (n cp : Nat) (l : List UseD) (w : World) (ht : RdI .i64 w w.heap.size A0 n0 c0 t.vars) (hx : UsesV w w.heap.size A n cp l) (h1 : mayB t = true) (hl : Good l) :
    Calls Try.prog 31 #[.agg #[.bool t.never, .int .u8 t.c, .slice A0 n0 c0], .slice A n cp] w (RetU (timesU t l) w) := by
  have hbx := below_box (w := w) (Obj.cells #[.bool t.never, .int .u8 t.c, .slice A0 n0 c0] 37)
  have hz := blk_new w #[.bool t.never, .int .u8 t.c, .slice A0 n0 c0] 37
  have ht0 := (ht.below hbx).more hbx.size
  have hx0 := (hx.below hbx).more hbx.size
  have htl := ht.len
  have hn0 : n0 ≤ 1048576 := by rw [← htl]; exact may_vars_len h1
  have hls := least_may h1
  obtain ⟨nv, tc, vs⟩ := t
  dsimp only at ht0 htl
  have Hz := Lib.hid hz
  have Hbx := Lib.hid hbx
  have Ht := Lib.hid ht0
  have Hls := Lib.hid hls
  have Hl := Lib.hid hl
  clear ht hx ht0 hz hbx hls h1
  cases nv with
  | true =>
    have hq := refScaleU_any 2 0 A n cp l _ hx0 hl (by decide)
    have Hq := Lib.hid hq
    have z0 : (w.alloc (Obj.cells #[.bool true, .int .u8 tc, .slice A0 n0 c0] 37)).cell? ⟨w.heap.size, 0, none⟩ = some (.bool true) := Hz.out.cell 0
    clear hq hx0 hl
    go_enter Try.func31, Try.ntmps31
    go_wp2_with fail
    refine Hq.out.mono ?_; rintro e w1 ⟨A1, n1, c1, rfl, hr1, hb1⟩
    have Hr1 := Lib.hid hr1
    have Hb1 := Lib.hid (Hbx.out.trans (hb1.mono Hbx.out.size))
    clear hr1 hb1 z0
    go_wp2_with fail
    go_ret
    exact ⟨A1, n1, c1, rfl, Hr1.out, Hb1.out⟩
  | false =>
    have hq := refScaleU_any tc 0 A n cp l _ hx0 hl (isB_c Hls.out.1.1 Hls.out.1.2)
    have Hq := Lib.hid hq
    have hvr : ∀ v ∈ vs, 0 ≤ v ∧ v < 1048576 := Hls.out.2
    have hg0 : Good (scaleU tc 0 l) := scaleU_good hl (isB_c Hls.out.1.1 Hls.out.1.2)
    have Hvr := Lib.hid hvr
    have Hg0 := Lib.hid hg0
    have z0 : (w.alloc (Obj.cells #[.bool false, .int .u8 tc, .slice A0 n0 c0] 37)).cell? ⟨w.heap.size, 0, none⟩ = some (.bool false) := Hz.out.cell 0
    have z1 : (w.alloc (Obj.cells #[.bool false, .int .u8 tc, .slice A0 n0 c0] 37)).cell? ⟨w.heap.size, 1, none⟩ = some (.int .u8 tc) := Hz.out.cell 1
    have hlt := Hz.out.lt
    clear hq hx0 hl hvr hg0 Hls Hl
    go_enter Try.func31, Try.ntmps31
    go_wp2_with fail
    refine Hq.out.mono ?_; rintro e w1 ⟨A1, n1, c1, rfl, hr1, hb1⟩
    have hz1 := Hz.out.below hb1 hlt
    have ht1 := (Ht.out.below hb1).more hb1.size
    have Hz1 := Lib.hid hz1
    have Ht1 := Lib.hid ht1
    have Hr1 := Lib.hid hr1
    have Hb1 := Lib.hid (Hbx.out.trans (hb1.mono Hbx.out.size))
    have hlt1 := hz1.lt
    clear hr1 hb1 z0 z1 hz1 ht1 Hq hlt
    go_wp2_with fail
    go_loopg [5, 6] n0 (fun gh o i wr => ∃ (k : Nat) (A2 : Option Addr) (n2 c2 : Nat), k ≤ n0 ∧ gh = n0 - k ∧ i = .int .i64 k ∧ o = .slice A2 n2 c2 ∧ UsesV wr wr.heap.size A2 n2 c2 ((vs.take k).foldl (fun o v => scaleU 0 v o) (scaleU tc 0 l)) ∧ Below w1.heap.size w1 wr)
    case atStart => exact ⟨0, A1, n1, c1, Nat.zero_le _, rfl, rfl, rfl, Hr1.out, Below.refl _ _⟩
    case round =>
      obtain ⟨k, A2, n2, c2, hk, rfl, rfl, rfl, hu, hbel⟩ := hrel
      have b2 : wr.cell? ⟨w.heap.size, 2, none⟩ = some (.slice A0 n0 c0) := (Hz1.out.below hbel hlt1).cell 2
      by_cases hkm : k < n0
      · have d0 : decide (k < n0) = true := by simpa using hkm
        have hk' : k < vs.length := by omega
        obtain ⟨bl, ol, q, hbl, hc⟩ := (Ht1.out.below hbel).at_ (by omega)
        subst q
        have v0 := hc k hk'
        have hstep : (vs.take (k + 1)).foldl (fun o v => scaleU 0 v o) (scaleU tc 0 l) = scaleU 0 vs[k] ((vs.take k).foldl (fun o v => scaleU 0 v o) (scaleU tc 0 l)) := by rw [List.take_succ_eq_append_getElem hk']; exact fold_snoc (fun o v => scaleU 0 v o) _ _ _
        have hgo : Good ((vs.take k).foldl (fun o v => scaleU 0 v o) (scaleU tc 0 l)) := fold_good _ _ Hg0.out fun v hv => Hvr.out v (List.mem_of_mem_take hv)
        have hvk := Hvr.out vs[k] (List.getElem_mem hk')
        have hq := refScaleU_any 0 vs[k] A2 n2 c2 _ wr hu hgo (isB_v hvk.1 hvk.2)
        obtain ⟨v, hv⟩ : ∃ v, vs[k] = v := ⟨_, rfl⟩
        rw [hv] at v0 hstep hq
        have Hq := Lib.hid hq
        have Hst := Lib.hid hstep
        have Hbel := Lib.hid hbel
        have k1 : (0 : Int) ≤ (k : Int) := by omega
        have k2 : (k : Int) < n0 := by omega
        clear hc hstep hgo hvk hq hv hu hbel
        go_wp2_with fail
        refine Hq.out.mono ?_; rintro e w3 ⟨A3, n3, c3, rfl, hr3, hb3⟩
        have Hr3 := Lib.hid hr3
        have Hb3 := Lib.hid (Hbel.out.trans (hb3.mono Hbel.out.size))
        clear hr3 hb3 b2 v0
        go_wp2_with fail
        go_roundg (n0 - (k + 1))
        case measure => omega
        case rel => exact ⟨k + 1, A3, n3, c3, by omega, rfl, by go_num, rfl, by rw [Hst.out]; exact Hr3.out, Hb3.out⟩
      · have d0 : decide (k < n0) = false := by simpa using hkm
        rw [List.take_of_length_le (by omega)] at hu
        have HU := Lib.hid hu
        have Hbel := Lib.hid (Hb1.out.trans (hbel.mono Hb1.out.size))
        clear hu hbel
        go_wp2_with fail
        go_ret
        exact ⟨A2, n2, c2, rfl, HU.out, Hbel.out⟩

end Go.Proofs.Ytimlbpjdgnapoaa

/- The contracts of the helpers of package usufructlaw17: one, used, great. -/
namespace Go.Proofs.Ytimlbpjdgnapoaa
set_option linter.unusedVariables false
set_option linter.unusedSimpArgs false
open Go.RowKit

theorem one_any_u (x : Int) (A : Option Addr) (n c : Nat) (w : World) :
    Calls Try.prog 23 #[.int .u8 x, .slice A n c] w fun e w' => e = .returned (.agg #[.bool false, .int .u8 x, .slice A n c]) ∧ Below w.heap.size w w' := by
  go_enter Try.func23, Try.ntmps23
  go_wp2_with fail
  exact bodyPost_ret (v := .agg #[.bool false, .int .u8 x, .slice A n c]) (by simp [results, Try.results23, go_sem]) rfl ⟨rfl, below_box _⟩

/-- uses that are gone through -/
structure SmallU (ls : List (List UseD)) : Prop where
  num : ls.length ≤ 20
  len : ∀ l ∈ ls, l.length ≤ 500
  vars : ∀ l ∈ ls, ∀ x ∈ l, x.t.vars.length ≤ 500
def GreatPost (ls : List (List UseD)) (w : World) (e : Ending) (w' : World) : Prop :=
  ∃ r : Bool, e = .returned (.bool r) ∧ (r = false → SmallU ls) ∧ Below w.heap.size w w'

set_option maxRecDepth 100000 in
set_option maxHeartbeats 2000000 in
theorem greatU_any (A : Option Addr) (n c : Nat) (ls : List (List UseD)) (w : World) (hr : LsV w w.heap.size A n c ls) (hbig : ∀ l ∈ ls, l.length ≤ 4398046511104) :
    Calls Try.prog 8 #[.slice A n c] w (GreatPost ls w) := by
  have hmn := @run_min2 Try.prog
  have hlen := hr.len
  have hn43 : n ≤ maxLen := Nat.le_trans hr.2.1 hr.2.2.1
  unfold maxLen at hn43
  have Hr := Lib.hid hr
  have Hbig := Lib.hid hbig
  clear hr hbig
  go_enter Try.func8, Try.ntmps8
  go_wp2_with fail
  go_loopg [3, 10] n (fun gh s i wr => ∃ k S : Nat, k ≤ n ∧ gh = n - k ∧ i = .int .i64 k ∧ s = .int .i64 S ∧ S ≤ 500 ∧ (∀ j (h : j < ls.length), j < k → ls[j].length ≤ 500 ∧ ∀ x ∈ ls[j], x.t.vars.length ≤ 500) ∧ Below w.heap.size w wr)
  case atStart => exact ⟨0, 0, Nat.zero_le _, rfl, rfl, rfl, by omega, fun j _ h => absurd h (by omega), Below.refl _ _⟩
  case round =>
    obtain ⟨k, S, hk, rfl, rfl, rfl, hS, hall, hbel⟩ := hrel
    have Hall := Lib.hid hall
    have Hbel := Lib.hid hbel
    clear hall
    by_cases hkn : k < n
    · have d0 : decide (k < n) = true := by simpa using hkn
      have hk' : k < ls.length := by omega
      obtain ⟨b, o, q, hb, hc⟩ := (Hr.out.below hbel).at_ (by omega)
      subst q
      obtain ⟨Ai, ni, ci, e0, hx⟩ := hc k hk'
      have hxl := hx.len
      have hni : ni ≤ 4398046511104 := by rw [← hxl]; exact Hbig.out _ (List.getElem_mem hk')
      have Hx := Lib.hid (hx.more hbel.size)
      obtain ⟨w4, hw4⟩ : ∃ w4, w4 = wr := ⟨_, rfl⟩
      subst hw4
      have k1 : (0 : Int) ≤ (k : Int) := by omega
      have k2 : (k : Int) < n := by omega
      clear hc hx hbel
      go_wp2_with fail
      go_loopg [3, 20] ni (fun gh s i wr2 => ∃ j T : Nat, j ≤ ni ∧ gh = ni - j ∧ i = .int .i64 j ∧ s = .int .i64 T ∧ ni ≤ T ∧ (j = 0 → T = S + ni) ∧ (0 < j → T ≤ 500) ∧ (∀ q (h : q < ls[k].length), q < j → ls[k][q].t.vars.length ≤ 500) ∧ Below w4.heap.size w4 wr2)
      case atStart => exact ⟨0, S + ni, Nat.zero_le _, rfl, rfl, by go_num, by omega, fun _ => rfl, fun h => absurd h (by omega), fun q _ h => absurd h (by omega), Below.refl _ _⟩
      case round =>
        obtain ⟨j, T, hj, rfl, rfl, rfl, hnT, hT2, hT5, hvs, hbel2⟩ := hrel
        have Hvs := Lib.hid hvs
        have Hbel2 := Lib.hid hbel2
        clear hvs
        have hT42 : T ≤ 4398046512000 := by
          rcases Nat.eq_zero_or_pos j with h | h
          · have := hT2 h; omega
          · have := hT5 h; omega
        by_cases hjn : j < ni
        · have d1 : decide (j < ni) = true := by simpa using hjn
          obtain ⟨b2, o2, q2, hb2, hc2⟩ := (Hx.out.below hbel2).at_ (by omega)
          subst q2
          have hj' : j < ls[k].length := by omega
          obtain ⟨f0, Ax, nx, cx, f1, f2, f3, hrx⟩ := hc2 j hj'
          obtain ⟨x, hxj⟩ : ∃ x, ls[k][j] = x := ⟨_, rfl⟩
          rw [hxj] at f0 f1 f2 hrx
          replace f2 : wr.cell? ⟨b2, o2 + j * 4 + 2, none⟩ = some (.int .u8 x.t.c) := f2
          replace f3 : wr.cell? ⟨b2, o2 + j * 4 + 3, none⟩ = some (.slice Ax nx cx) := f3
          have hnx : nx ≤ maxLen := Nat.le_trans hrx.2.1 hrx.2.2
          unfold maxLen at hnx
          have hxvl := hrx.len
          have Hxj := Lib.hid hxj
          have j1 : (0 : Int) ≤ (j : Int) := by omega
          have j2 : (j : Int) < ni := by omega
          obtain ⟨M, hM⟩ : ∃ M : Nat, M = min nx 500 := ⟨_, rfl⟩
          have hMm : (min (nx : Int) 500) = (M : Int) := by omega
          have hM5 : M ≤ 500 := by omega
          have hbx := Hbel2.out.alloc Hbel2.out.size (Obj.cells #[.int .i64 x.v, .bool x.t.never, .int .u8 x.t.c, .slice Ax nx cx] 41)
          have Hbx := Lib.hid hbx
          clear hc2 hrx hxj hbx hbel2
          by_cases hbig : 500 < T + M
          · have d2 : decide ((T : Int) + M > 500) = true := by simp; omega
            clear hM
            go_wp2_with fail
            go_ret
            exact ⟨true, rfl, fun h => absurd h (by simp), Hbel.out.trans (Hbx.out.mono Hbel.out.size)⟩
          · have d2 : decide ((T : Int) + M > 500) = false := by simp; omega
            have hvs2 : ∀ q (h : q < ls[k].length), q < j + 1 → ls[k][q].t.vars.length ≤ 500 := fun q h hq => by
              rcases Nat.lt_or_ge q j with h' | h'
              · exact Hvs.out q h h'
              · have : q = j := by omega
                subst this
                rw [Hxj.out]; omega
            have Hvs2 := Lib.hid hvs2
            clear hvs2 hM
            go_wp2_with fail
            go_roundg (ni - (j + 1))
            case measure => omega
            case rel => exact ⟨j + 1, T + M, by omega, rfl, by go_num, by go_num, by omega, fun h => absurd h (by omega), fun _ => by omega, Hvs2.out, Hbx.out⟩
        · have d1 : decide (j < ni) = false := by simpa using hjn
          have hall2 : ∀ j (h : j < ls.length), j < k + 1 → ls[j].length ≤ 500 ∧ ∀ x ∈ ls[j], x.t.vars.length ≤ 500 := fun q h hq => by
            rcases Nat.lt_or_ge q k with h' | h'
            · exact Hall.out q h h'
            · have : q = k := by omega
              subst this
              refine ⟨by omega, fun x hx => ?_⟩
              obtain ⟨z, hz, rfl⟩ := List.getElem_of_mem hx
              exact Hvs.out z hz (by omega)
          have hT : T ≤ 500 := by
            rcases Nat.eq_zero_or_pos j with h | h
            · have := hT2 h; omega
            · exact hT5 h
          have Hall2 := Lib.hid hall2
          have Hb3 := Lib.hid (Hbel.out.trans (hbel2.mono Hbel.out.size))
          clear hall2 hbel2
          go_wp2_with fail
          go_roundg (n - (k + 1))
          case measure => omega
          case rel => exact ⟨k + 1, T, by omega, rfl, by go_num, rfl, hT, Hall2.out, Hb3.out⟩
    · have d0 : decide (k < n) = false := by simpa using hkn
      have d2 : decide ((S : Int) > 500) = false := by simp; omega
      have HF : Hid ((decide ((n : Int) > 20) = false) → SmallU ls) := Lib.hid fun h => by
        have h' : ¬ ((n : Int) > 20) := of_decide_eq_false h
        refine ⟨by omega, fun l hl => ?_, fun l hl => ?_⟩
        · obtain ⟨j, hj, rfl⟩ := List.getElem_of_mem hl
          exact (Hall.out j hj (by omega)).1
        · obtain ⟨j, hj, rfl⟩ := List.getElem_of_mem hl
          exact (Hall.out j hj (by omega)).2
      go_wp2_with fail
      go_ret
      exact ⟨_, rfl, HF.out, Hbel.out⟩

/-- each variable is used as its term says -/
def usedU (ts : List TermD) : List UseD := (ts.zipIdx.filter fun p => !p.1.never).map fun p => ⟨p.2, p.1⟩
theorem usedU_snoc (ts : List TermD) (t : TermD) : usedU (ts ++ [t]) = usedU ts ++ (if t.never then [] else [⟨ts.length, t⟩]) := by
  unfold usedU
  rw [List.zipIdx_append, List.filter_append, List.map_append]
  cases h : t.never <;> simp [h]

set_option maxRecDepth 100000 in
set_option maxHeartbeats 2000000 in
theorem used_any (A : Option Addr) (n c : Nat) (ts : List TermD) (w : World) (hr : TermsV w w.heap.size A n c ts) (hn : n ≤ 1000) :
    Calls Try.prog 22 #[.slice A n c] w (RetU (usedU ts) w) := by
  obtain ⟨i2, hu0, hu1, hu2, hu3⟩ := info_parts usageInfo
  obtain ⟨hlen, hnc, hcm, hat⟩ := hr
  have Hat := Lib.hid hat
  clear hat
  go_enter Try.func22, Try.ntmps22
  go_wp2_with fail
  go_loopg [3, 8] n (fun gh o i wr => ∃ k m : Nat, k ≤ n ∧ gh = n - k ∧ i = .int .i64 k ∧ m ≤ k ∧ OwnU wr w.heap.size o m (usedU (ts.take k)) ∧ Below w.heap.size w wr)
  case atStart => exact ⟨0, 0, Nat.zero_le _, rfl, rfl, Nat.le_refl _, OwnU.nil _ _, Below.refl _ _⟩
  case round =>
    obtain ⟨k, m, hk, rfl, rfl, hm, ho, hbel⟩ := hrel
    obtain ⟨A1, c1, rfl⟩ := ho.form
    by_cases hkn : k < n
    · have d0 : decide (k < n) = true := by simpa using hkn
      obtain ⟨b, off, rfl, hb, hcell⟩ := Hat.out (by omega)
      have hk' : k < ts.length := by omega
      obtain ⟨A', n', c', e0, e1, e2, hr'⟩ := (hcell k hk').keep hb (fun q hq => hbel.cell hq)
      have hstep : usedU (ts.take (k + 1)) = usedU (ts.take k) ++ (if ts[k].never then [] else [⟨(k : Nat), ts[k]⟩]) := by
        rw [List.take_succ_eq_append_getElem hk', usedU_snoc, List.length_take, Nat.min_eq_left (by omega)]
      obtain ⟨t, ht⟩ : ∃ t, ts[k] = t := ⟨_, rfl⟩
      rw [ht] at e0 e1 hr' hstep
      obtain ⟨nv, tc, vs⟩ := t
      dsimp only at e0 e1 hr' hstep
      have k1 : (0 : Int) ≤ (k : Int) := by omega
      have k2 : (k : Int) < n := by omega
      have hlow := rdI_low hr'
      have hlt := ho.lt
      have hf : 0 < n' → ∃ a, A' = some a ∧ some a.block ≠ (Value.slice A1 m c1).ownBlock := fun h => by
        obtain ⟨a, e, ha⟩ := hlow h
        refine ⟨a, e, fun e' => ?_⟩
        have := (hlt _ e'.symm).1
        omega
      have hbx := below_box (w := wr) (Obj.cells #[.bool nv, .int .u8 tc, .slice A' n' c'] 37)
      have Hr' := Lib.hid (((hr'.more hbel.size).below hbx).more hbx.size)
      have Hf := Lib.hid hf
      have Ho := Lib.hid (ho.beyond hbx)
      have Hbel := Lib.hid (hbel.trans (hbx.mono hbel.size))
      clear hcell hr' hlow hlt hf hbx ho hbel ht
      cases nv with
      | true =>
        simp only [if_true, List.append_nil] at hstep
        have Hst := Lib.hid hstep
        clear hstep
        go_wp2_with fail
        go_roundg (n - (k + 1))
        case measure => omega
        case rel => exact ⟨k + 1, m, by omega, rfl, by go_num, by omega, by rw [Hst.out]; exact Ho.out, Hbel.out⟩
      | false =>
        simp only [Bool.false_eq_true, if_false] at hstep
        have Hst := Lib.hid hstep
        clear hstep
        go_wp2_with (at_builtin; go_must (refine wpList_append_use w (wr.alloc (Obj.cells #[.bool false, .int .u8 tc, .slice A' n' c'] 37)) rfl (.tmp 16) (.tmp 20) 25 rfl w.heap.size i2 _ Try.underlying25 hu0 hu1 hu2 hu3 rfl (.slice A1 m c1) m _ rfl ⟨(k : Nat), ⟨false, tc, vs⟩⟩ A' n' c' Hr'.out Hf.out (by rw [World.size_alloc]; rfl) Ho.out (by omega) Hbel.out Hbel.out.size ?_); intro A10 c10 w10 ho10 hb10)
        go_roundg (n - (k + 1))
        case measure => omega
        case rel => exact ⟨k + 1, m + 1, by omega, rfl, by go_num, by omega, by rw [Hst.out]; exact ho10, hb10⟩
    · have d0 : decide (k < n) = false := by simpa using hkn
      rw [List.take_of_length_le (by omega)] at ho
      have HU := Lib.hid ho.uses.2
      have Hbel := Lib.hid hbel
      clear ho hbel
      go_wp2_with fail
      go_ret
      exact ⟨A1, m, c1, rfl, HU.out, Hbel.out⟩

end Go.Proofs.Ytimlbpjdgnapoaa

/- usufructlaw17.works; two lists of uses, a term or two laid anew. -/
namespace Go.Proofs.Ytimlbpjdgnapoaa
set_option linter.unusedVariables false
set_option linter.unusedSimpArgs false
open Go.RowKit

theorem terms2u {w : World} {b : Nat} {B : Nat} {x y : TermD} {A A' : Option Addr} {n c n' c' : Nat} (h : Blk w b 37 #[.bool x.never, .int .u8 x.c, .slice A n c, .bool y.never, .int .u8 y.c, .slice A' n' c']) (hb : b < B) (h1 : RdI .i64 w B A n c x.vars) (h2 : RdI .i64 w B A' n' c' y.vars) : TermsV w B (some ⟨b, 0, none⟩) 2 2 [x, y] :=
  ⟨rfl, Nat.le_refl _, by unfold maxLen; omega, fun _ => ⟨b, 0, rfl, hb, fun i hi => by
    match i, hi with
    | 0, _ => exact ⟨A, n, c, h.cell 0, h.cell 1, h.cell 2, h1⟩
    | 1, _ => exact ⟨A', n', c', h.cell 3, h.cell 4, h.cell 5, h2⟩⟩⟩
theorem terms1u {w : World} {b : Nat} {B : Nat} {x : TermD} {A : Option Addr} {n c : Nat} (h : Blk w b 37 #[.bool x.never, .int .u8 x.c, .slice A n c]) (hb : b < B) (h1 : RdI .i64 w B A n c x.vars) : TermsV w B (some ⟨b, 0, none⟩) 1 1 [x] :=
  ⟨rfl, Nat.le_refl _, by unfold maxLen; omega, fun _ => ⟨b, 0, rfl, hb, fun i hi => by
    match i, hi with
    | 0, _ => exact ⟨A, n, c, h.cell 0, h.cell 1, h.cell 2, h1⟩⟩⟩
/-- two lists laid side by side -/
theorem ls2_new {w : World} {A A' : Option Addr} {n c n' c' : Nat} {a b : List UseD} (hx : UsesV w w.heap.size A n c a) (hy : UsesV w w.heap.size A' n' c' b) :
    LsV (w.alloc (Obj.cells #[.slice A n c, .slice A' n' c'] 25)) (w.alloc (Obj.cells #[.slice A n c, .slice A' n' c'] 25)).heap.size (some ⟨w.heap.size, 0, none⟩) 2 2 [a, b] := by
  have hbx := below_box (w := w) (Obj.cells #[.slice A n c, .slice A' n' c'] 25)
  have h := blk_new w #[.slice A n c, .slice A' n' c'] 25
  exact ⟨rfl, Nat.le_refl _, by unfold maxLen; omega, fun _ => ⟨_, 0, rfl, by simp, fun i hi => by
    match i, hi with
    | 0, _ => exact ⟨A, n, c, h.cell 0, (hx.below hbx).more hbx.size⟩
    | 1, _ => exact ⟨A', n', c', h.cell 1, (hy.below hbx).more hbx.size⟩⟩⟩
theorem ls3_new {w : World} {A A' A'' : Option Addr} {n c n' c' n'' c'' : Nat} {a b d : List UseD} (hx : UsesV w w.heap.size A n c a) (hy : UsesV w w.heap.size A' n' c' b) (hz : UsesV w w.heap.size A'' n'' c'' d) :
    LsV (w.alloc (Obj.cells #[.slice A n c, .slice A' n' c', .slice A'' n'' c''] 25)) (w.alloc (Obj.cells #[.slice A n c, .slice A' n' c', .slice A'' n'' c''] 25)).heap.size (some ⟨w.heap.size, 0, none⟩) 3 3 [a, b, d] := by
  have hbx := below_box (w := w) (Obj.cells #[.slice A n c, .slice A' n' c', .slice A'' n'' c''] 25)
  have h := blk_new w #[.slice A n c, .slice A' n' c', .slice A'' n'' c''] 25
  exact ⟨rfl, Nat.le_refl _, by unfold maxLen; omega, fun _ => ⟨_, 0, rfl, by simp, fun i hi => by
    match i, hi with
    | 0, _ => exact ⟨A, n, c, h.cell 0, (hx.below hbx).more hbx.size⟩
    | 1, _ => exact ⟨A', n', c', h.cell 1, (hy.below hbx).more hbx.size⟩
    | 2, _ => exact ⟨A'', n'', c'', h.cell 2, (hz.below hbx).more hbx.size⟩⟩⟩

def u1 : TermD := ⟨false, 1, []⟩
theorem works_sum : eachU sumT [ofV 0, usedU [⟨false, 1, []⟩, ⟨false, 1, []⟩]] = usedU [⟨false, 3, []⟩, ⟨false, 1, []⟩] := by
  have h : sset (varsOf [ofV 0, usedU [⟨false, 1, []⟩, ⟨false, 1, []⟩]]) = [0, 1] := sset_eq (by simp [Rises]) (fun x => by simp [varsOf, ofV, usedU])
  unfold eachU
  rw [h]
  decide +kernel
theorem ofV0_may : [ofV 0, usedU [⟨false, 1, []⟩, ⟨false, 1, []⟩]].any (fun x => !mayU x) = false := by decide +kernel
theorem ofV0_vars : (varsOf [ofV 0, usedU [⟨false, 1, []⟩, ⟨false, 1, []⟩]]).length ≤ 1048576 := by simp [varsOf, ofV, usedU]

set_option maxRecDepth 100000 in
set_option maxHeartbeats 2000000 in
theorem worksU_any (w : World) :
    Calls Try.prog 9 #[] w fun e w' => e = .returned (.bool true) ∧ Below w.heap.size w w' := by
  go_enter Try.func9, Try.ntmps9
  go_wp2_with fail
  refine (useOf_any 0 w).mono ?_; rintro e w1 ⟨A1, n1, c1, rfl, hr1, hb1⟩
  go_wp2_with fail
  refine (one_any_u _ _ _ _ _).mono ?_; rintro e w2 ⟨rfl, hb2⟩
  have hr2 := (hr1.below hb2).more hb2.size
  have hbel2 := hb1.trans (hb2.mono hb1.size)
  clear hr1 hb1 hb2
  go_wp2_with fail
  refine (one_any_u _ _ _ _ _).mono ?_; rintro e w3 ⟨rfl, hb3⟩
  have hr3 := (hr2.below hb3).more hb3.size
  have hbel3 := hbel2.trans (hb3.mono hbel2.size)
  clear hr2 hbel2 hb3
  go_wp2_with fail
  have hb4 := below_box (w := w3) (Obj.cells #[.bool false, .int .u8 1, .slice none 0 0, .bool false, .int .u8 1, .slice none 0 0] 37)
  have hk4 := blk_new w3 #[.bool false, .int .u8 1, .slice none 0 0, .bool false, .int .u8 1, .slice none 0 0] 37
  have ht4 := terms2u (x := ⟨false, 1, []⟩) (y := ⟨false, 1, []⟩) (B := w3.heap.size + 1) hk4 (by omega) RdI.nil RdI.nil
  refine (used_any _ 2 2 _ _ (by rw [World.size_alloc]; exact ht4) (by omega)).mono ?_; rintro e w5 ⟨A5, n5, c5, rfl, hr5, hb5⟩
  have hb35 := hb4.trans (hb5.mono hb4.size)
  have hr35 := (hr3.below hb35).more hb35.size
  have hbel5 := hbel3.trans (hb35.mono hbel3.size)
  clear hr3 hbel3 hb4 hk4 ht4 hb5 hb35
  have hls := ls2_new hr35 hr5
  have hq := sumU_any _ 2 2 _ _ hls (by omega) ofV0_vars
  rw [ofV0_may, if_neg (by simp), works_sum] at hq
  have Hq := Lib.hid hq
  have hb6 := below_box (w := w5) (Obj.cells #[.slice A1 n1 c1, .slice A5 n5 c5] 25)
  have hbel6 := hbel5.trans (hb6.mono hbel5.size)
  clear hls hq hr35 hr5 hbel5 hb6
  go_wp2_with fail
  refine Hq.out.mono ?_; rintro e w7 ⟨A7, n7, c7, rfl, hr7, hb7⟩
  have hbel7 := hbel6.trans (hb7.mono hbel6.size)
  clear hb7 hbel6 Hq
  go_wp2_with fail
  refine (one_any_u _ _ _ _ _).mono ?_; rintro e w8 ⟨rfl, hb8⟩
  have hr8 := (hr7.below hb8).more hb8.size
  have hbel8 := hbel7.trans (hb8.mono hbel7.size)
  clear hr7 hb8 hbel7
  go_wp2_with fail
  refine (one_any_u _ _ _ _ _).mono ?_; rintro e w9 ⟨rfl, hb9⟩
  have hr9 := (hr8.below hb9).more hb9.size
  have hbel9 := hbel8.trans (hb9.mono hbel8.size)
  clear hr8 hb9 hbel8
  go_wp2_with fail
  have hb10 := below_box (w := w9) (Obj.cells #[.bool false, .int .u8 3, .slice none 0 0, .bool false, .int .u8 1, .slice none 0 0] 37)
  have hk10 := blk_new w9 #[.bool false, .int .u8 3, .slice none 0 0, .bool false, .int .u8 1, .slice none 0 0] 37
  have ht10 := terms2u (x := ⟨false, 3, []⟩) (y := ⟨false, 1, []⟩) (B := w9.heap.size + 1) hk10 (by omega) RdI.nil RdI.nil
  refine (used_any _ 2 2 _ _ (by rw [World.size_alloc]; exact ht10) (by omega)).mono ?_; rintro e w11 ⟨A11, n11, c11, rfl, hr11, hb11⟩
  have hb911 := hb10.trans (hb11.mono hb10.size)
  have hr911 := (hr9.below hb911).more hb911.size
  have hbel11 := hbel9.trans (hb911.mono hbel9.size)
  clear hr9 hbel9 hb10 hk10 ht10 hb11 hb911
  go_wp2_with fail
  refine (sameU_any _ _ _ _ _ _ _ _ w11 hr911 hr11).mono ?_; rintro e w12 ⟨rfl, hb12⟩
  rw [decide_eq_true rfl]
  go_wp2_with fail
  go_ret
  exact ⟨rfl, hbel11.trans (hb12.mono hbel11.size)⟩

end Go.Proofs.Ytimlbpjdgnapoaa

