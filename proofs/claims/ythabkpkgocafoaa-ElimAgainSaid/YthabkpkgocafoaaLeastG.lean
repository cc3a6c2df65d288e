/- Contracts of slices.Clone at multiplicities, slices.ContainsFunc at inequalities with Solve's own test. -/
import Derived.Test.YthabkpkgocafoaaEaB
import Derived.Test.YthabkpkgocafoaaMake
namespace Go.Proofs.Ythabkpkgocafoaa
set_option linter.unusedVariables false
set_option linter.unusedSimpArgs false
open Go.RowKit

theorem RowC.of_own {w : World} {base g n c : Nat} {t : TypeId} {k : IntKind} {us : List Int} (h : w.ownsRow base t 1 (.slice (some ⟨g, 0, none⟩) n c) n (us.map (Value.int k))) : RowC w g t k us ∧ us.length = n ∧ n ≤ c ∧ c ≤ maxLen ∧ base ≤ g := by
  have hl : us.length = n := by have := h.1; simpa using this
  rcases h.2 with ⟨e0, _⟩ | ⟨g', cap, cur, e0, hb, hg, hn, hm, hs, ht⟩
  · cases e0
  · injection e0 with e1 _ e3
    injection e1 with e1
    injection e1 with e1
    subst e1; subst e3
    refine ⟨⟨cur, hg, by omega, fun i hi => ?_⟩, hl, hn, hm, hb⟩
    have h1 : (cur.toList.take (n * 1))[i]? = some (.int k us[i]) := by rw [ht]; simp [hi]
    rw [List.getElem?_take] at h1
    split at h1
    · simpa using h1
    · cases h1
theorem RowC.of_rep {w : World} {g n : Nat} {t : TypeId} {k : IntKind} {u : Int} (h : Blk w g t (List.replicate n (Value.int k u)).toArray) : RowC w g t k (List.replicate n u) :=
  ⟨_, h, by simp, fun i hi => by
    have : i < n := by simpa using hi
    simp [this]⟩

set_option maxHeartbeats 1000000 in
theorem clone_mult (a : Addr) (n c : Nat) (us : List Int) (w : World) (hr : RdI .u8 w w.heap.size (some a) n c us) (hbig : n ≤ 1099511627776) :
    Calls Try.prog 42 #[.slice (some a) n c] w fun e w' => ∃ g cc, e = .returned (.slice (some ⟨g, 0, none⟩) n cc) ∧ w'.ownsRow w.heap.size 27 1 (.slice (some ⟨g, 0, none⟩) n cc) n (us.map (Value.int .u8)) ∧ Below w.heap.size w w' := by
  obtain ⟨i0, hi0, hz0, hz1, hz2⟩ := info_parts multInfo
  have hq := fun w a n c n' c' => Lib.run_eql_slice_nil (P := Try.prog) w 22 27 a n c n' c' Try.underlying22
  have hr1 := hr.1.keep (w' := w.alloc (Obj.cells #[] 27)) (fun p hp => World.cell?_alloc_lt _ _ p hp)
  go_enter Try.func42, Try.ntmps42
  go_wp2_with (at_builtin; refine wpList_append_rd _ rfl _ _ 22 rfl w.heap.size 27 i0 _ 1 1 Try.underlying22 hi0 hz0 hz1 hz2 rfl (by omega) _ 0 [] rfl (World.ownsRow_lit w #[] 0 (Nat.le_refl _) (Nat.zero_le _) rfl) w.heap.size (some a) n c (us.map (Value.int .u8)) rfl hr1 (by intro v hv; obtain ⟨x, _, rfl⟩ := List.mem_map.1 hv; rfl) (by unfold maxLen; omega) (by omega) (by simp) ?_; intro v1 w1 hown1 hg1 hat1)
  go_ret
  have hown : v1.ownBlock ≠ none := by
    intro e
    rcases hat1 with h | h
    · rw [e] at h; cases h
    · rw [e] at h; cases h
  rcases hown1.2 with ⟨e0, _⟩ | ⟨g, cap, cur, e0, _⟩
  · rw [e0] at hown; exact absurd rfl hown
  · subst e0
    rw [Nat.zero_add] at hown1 ⊢
    exact ⟨g, cap, rfl, by simpa using hown1, ((Below.refl _ _).alloc (Nat.le_refl _) _).grown hg1 (by simp) (fun k hk => by have hk' : some w.heap.size = some k := hk; injection hk' with h; omega)⟩

theorem notMay_any (x : IneqD) (n : Int) (b : Nat) (w : World) (hb : w.cell? ⟨b, 0, none⟩ = some (.int .i64 n)) :
    Calls Try.prog 40 #[.agg #[.int .i64 x.lv, .int .u8 x.lc, .int .u8 x.c, .int .i64 x.r], .pointer (some ⟨b, 0, none⟩)] w fun e w' => e = .returned (.bool (!mayL x n)) ∧ Below w.heap.size w w' := by
  have hbl := block_lt_of_cell hb
  have hX := blk_new w #[.int .i64 x.lv, .int .u8 x.lc, .int .u8 x.c, .int .i64 x.r] 31
  have hb0 := below_box (w := w) (Obj.cells #[.int .i64 x.lv, .int .u8 x.lc, .int .u8 x.c, .int .i64 x.r] 31)
  have hb1 : (w.alloc (Obj.cells #[.int .i64 x.lv, .int .u8 x.lc, .int .u8 x.c, .int .i64 x.r] 31)).cell? ⟨b, 0, none⟩ = some (.int .i64 n) := (World.cell?_alloc_lt _ _ ⟨b, 0, none⟩ hbl).trans hb
  go_enter Try.func40, Try.ntmps40
  go_wp2_with fail
  refine (leastMay_any x n _).mono ?_
  rintro e w1 ⟨rfl, hb2⟩
  have hw := hb0.trans (hb2.mono hb0.size)
  obtain ⟨m, hm⟩ : ∃ m, mayL x n = m := ⟨_, rfl⟩
  rw [hm]
  have HM := Lib.hid hm
  clear hm
  go_wp2_with fail
  go_ret
  exact ⟨by rw [HM.out]; rfl, hw⟩

set_option maxHeartbeats 1000000 in
theorem indexL_any (b : Nat) (n : Int) (A : Option Addr) (nl c : Nat) (xs : List IneqD) (w : World) (hr : IneqsV w w.heap.size A nl c xs) (hb : w.cell? ⟨b, 0, none⟩ = some (.int .i64 n)) :
    Calls Try.prog 63 #[.slice A nl c, .func (.func 40) #[] #[.pointer (some ⟨b, 0, none⟩)]] w fun e w' => ∃ z : Int, e = .returned (.int .i64 z) ∧ decide (z ≥ 0) = xs.any (fun x => !mayL x n) ∧ Below w.heap.size w w' := by
  have hlen := hr.len
  have hcm := hr.2.2.1
  have hnc := hr.2.1
  have Hr := Lib.hid hr
  have Hb := Lib.hid hb
  have hbl := block_lt_of_cell hb
  clear hr hb
  unfold maxLen at hcm
  go_enter Try.func63, Try.ntmps63
  go_wp2_with fail
  go_loopg [5, 8] nl (fun g _ i wr => ∃ k : Nat, k ≤ nl ∧ g = nl - k ∧ i = .int .i64 k ∧ (∀ j (h : j < xs.length), j < k → mayL xs[j] n = true) ∧ Below w.heap.size w wr)
  case atStart => exact ⟨0, Nat.zero_le _, rfl, rfl, fun j _ h => absurd h (by omega), Below.refl _ _⟩
  case round =>
    obtain ⟨k, hk, rfl, rfl, hno, hbel⟩ := hrel
    have Hno := Lib.hid hno
    have Hbel := Lib.hid hbel
    clear hno
    by_cases hlt : k < nl
    · obtain ⟨b', off, rfl, hb', hcell⟩ := (Hr.out.below hbel).at_ (by omega)
      have hk' : k < xs.length := by omega
      obtain ⟨e0, e1, e2, e3⟩ := hcell k hk'
      have hq := notMay_any xs[k] n b wr ((hbel.cell (p := ⟨b, 0, none⟩) hbl).trans Hb.out)
      generalize hx : xs[k] = x at e0 e1 e2 e3 hq
      have Hx := Lib.hid hx
      have Hq := Lib.hid hq
      have i1 : (0 : Int) ≤ (k : Int) := by omega
      have i2 : (k : Int) < nl := by omega
      clear hcell hq hx hbel
      go_wp2_with fail
      refine Hq.out.mono ?_; rintro e w1 ⟨rfl, hb1⟩
      have hw1 := Hbel.out.trans (hb1.mono Hbel.out.size)
      cases hm : mayL x n
      · have HF : Hid (xs.any (fun x => !mayL x n) = true) := List.any_eq_true.2 ⟨_, List.getElem_mem hk', by rw [Hx.out, hm]; rfl⟩
        clear hm hb1
        go_wp2_with fail
        go_ret
        exact ⟨_, rfl, by rw [HF.out]; simp, hw1⟩
      · have Hm := Lib.hid hm
        clear hm hb1
        go_wp2_with fail
        go_roundg (nl - (k + 1))
        case measure => omega
        case rel =>
          refine ⟨k + 1, by omega, rfl, by go_num, fun j hj hjk => ?_, hw1⟩
          rcases Nat.lt_or_ge j k with h | h
          · exact Hno.out j hj h
          · have : j = k := by omega
            subst this
            rw [Hx.out]; exact Hm.out
    · have HF : Hid (xs.any (fun x => !mayL x n) = false) := by
        show _ = _
        rw [List.any_eq_false]
        intro x hx
        obtain ⟨j, hj, rfl⟩ := List.getElem_of_mem hx
        rw [Hno.out j hj (by omega)]; simp
      clear hbel
      go_wp2_with fail
      go_ret
      exact ⟨-1, rfl, by rw [HF.out]; simp, Hbel.out⟩

theorem containsL_any (b : Nat) (n : Int) (A : Option Addr) (nl c : Nat) (xs : List IneqD) (w : World) (hr : IneqsV w w.heap.size A nl c xs) (hb : w.cell? ⟨b, 0, none⟩ = some (.int .i64 n)) :
    Calls Try.prog 39 #[.slice A nl c, .func (.func 40) #[] #[.pointer (some ⟨b, 0, none⟩)]] w fun e w' => e = .returned (.bool (xs.any (fun x => !mayL x n))) ∧ Below w.heap.size w w' := by
  go_enter Try.func39, Try.ntmps39
  go_wp2_with fail
  refine (indexL_any b n A nl c xs _ hr hb).mono ?_; rintro e w1 ⟨z, rfl, hz, hb1⟩
  have HZ := Lib.hid hz
  clear hz
  go_wp2_with fail
  go_ret
  exact ⟨by rw [← HZ.out]; rfl, hb1⟩

end Go.Proofs.Ythabkpkgocafoaa
