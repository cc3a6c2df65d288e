/- The contracts of usufructref02.Same, both. (in progress) -/
import Derived.Test.YtimlbpjdgnapoaaRefT
import Derived.Deep.QuietTactic
import Derived.BigQuiet
namespace Go.Proofs.Ytimlbpjdgnapoaa
set_option linter.unusedVariables false
set_option linter.unusedSimpArgs false
open Go.RowKit

theorem refSame_any (v1 v2 : Value) (a b : TermD) (w : World) (B B' : Nat) (h1 : TermV w B v1 a) (h2 : TermV w B' v2 b) (hB : B ≤ w.heap.size) (hB' : B' ≤ w.heap.size) :
    Calls Try.prog 25 #[v1, v2] w fun e w' => e = .returned (.bool (sameB a b)) ∧ Below w.heap.size w w' := by
  obtain ⟨A, n, c, rfl, hr⟩ := h1
  obtain ⟨A', n', c', rfl, hr'⟩ := h2
  obtain ⟨an, ac, av⟩ := a
  obtain ⟨bn, bc, bv⟩ := b
  have hl := hr.len
  have hl' := hr'.len
  have hn63 : n ≤ 9223372036854775807 := Nat.le_trans hr.2.1 hr.2.2
  have hbel : Below w.heap.size w ((w.alloc (Obj.cells #[.bool an, .int .u8 ac, .slice A n c] 37)).alloc (Obj.cells #[.bool bn, .int .u8 bc, .slice A' n' c'] 37)) := ((Below.refl _ _).alloc (Nat.le_refl _) _).alloc (by simp) _
  have hs : ∀ x, (an == bn && ac == bc && av == bv) = x → sameB ⟨an, ac, av⟩ ⟨bn, bc, bv⟩ = x := fun x h => h
  have Hs := Lib.hid hs
  have Hb := Lib.hid hbel
  have Hl := Lib.hid hl
  have Hl' := Lib.hid hl'
  clear hs hbel hl hl'
  by_cases e1 : an = bn
  · subst e1
    by_cases e2 : ac = bc
    · subst e2
      by_cases e3 : n = n'
      · subst e3
        have t1 : (an != an) = false := by simp
        have t2 : (ac != ac) = false := by simp
        have hr1 := (hr.more hB).below Hb.out
        have hr1' := (hr'.more hB').below Hb.out
        have s1 := ((blk_new w #[.bool an, .int .u8 ac, .slice A n c] 37).alloc (Obj.cells #[.bool an, .int .u8 ac, .slice A' n c'] 37)).cell 2
        have s2 := (blk_new (w.alloc (Obj.cells #[.bool an, .int .u8 ac, .slice A n c] 37)) #[.bool an, .int .u8 ac, .slice A' n c'] 37).cell 2
        rw [World.size_alloc] at s2
        have s1' : w.heap.size < ((w.alloc (Obj.cells #[.bool an, .int .u8 ac, .slice A n c] 37)).alloc (Obj.cells #[.bool an, .int .u8 ac, .slice A' n c'] 37)).heap.size := by simp; omega
        go_enter Try.func25, Try.ntmps25
        go_wp2_with fail
        generalize ((w.alloc (Obj.cells #[.bool an, .int .u8 ac, .slice A n c] 37)).alloc (Obj.cells #[.bool an, .int .u8 ac, .slice A' n c'] 37)) = W at Hb hr1 hr1' s1 s2 s1' ⊢
        have hlw : w.heap.size < W.heap.size := s1'
        go_loopg [5] n (fun g i wr => ∃ k q : Nat, k ≤ n ∧ g = n - k ∧ i = .int .i64 k ∧ Hid (av.take k = bv.take k) ∧ W.drewN q = wr)
        case atStart => exact ⟨0, 0, Nat.zero_le _, rfl, rfl, Lib.hid rfl, rfl⟩
        case round =>
          obtain ⟨k, q, hk, rfl, rfl, He, rfl⟩ := hrel
          by_cases hlk : k < n
          · obtain ⟨b1, o1, rfl, hb1, hc1⟩ := hr1.at_ (by omega)
            obtain ⟨b2, o2, rfl, hb2, hc2⟩ := hr1'.at_ (by omega)
            have hk1 : k < av.length := by rw [Hl.out]; exact hlk
            have hk2 : k < bv.length := by rw [Hl'.out]; exact hlk
            have x1 := hc1 k hk1
            have x2 := hc2 k hk2
            have i1 : (0 : Int) ≤ (k : Int) := by omega
            have i2 : (k : Int) < (n : Int) := by omega
            have Hn := Lib.hid (show av.take (k + 1) = bv.take (k + 1) ↔ av[k] = bv[k] by
              rw [List.take_succ_eq_append_getElem hk1, List.take_succ_eq_append_getElem hk2, He.out, List.append_cancel_left_eq, List.cons.injEq]; simp)
            have Hf := Lib.hid (fun h : av[k] ≠ bv[k] => (show false = sameB ⟨an, ac, av⟩ ⟨an, ac, bv⟩ from by
              rw [Hs.out false]
              have : (av == bv) = false := beq_eq_false_iff_ne.2 (fun he => h (by subst he; rfl))
              simp [this]))
            clear hc1 hc2 hr1 hr1' hr hr' Hs
            by_cases e : av[k] = bv[k]
            · have e1 : (av[k] != bv[k]) = false := by simp [e]
              have Hn' := Lib.hid (Hn.out.2 e)
              clear e Hf Hn
              go_wp2_with fail
              go_quiet (fail)
              go_wp2_with fail
              go_roundg (n - (k + 1))
              case measure => omega
              case rel => exact ⟨k + 1, _, by omega, rfl, by go_num, Hn', rfl⟩
            · have e1 : (av[k] != bv[k]) = true := by simp [e]
              have Hf' := Lib.hid (Hf.out e)
              clear e Hf Hn
              go_wp2_with fail
              go_quiet (fail)
              go_wp2_with fail
              go_ret
              exact ⟨ret_bool Hf'.out, below_drewN_t (below_drewN_t Hb.out _) _⟩
          · have hkn : k = n := by omega
            subst hkn
            have H : Hid (true = sameB ⟨an, ac, av⟩ ⟨an, ac, bv⟩) := by
              show _ = _
              rw [Hs.out true]
              have h := He.out
              rw [List.take_of_length_le (by rw [Hl.out]; exact Nat.le_refl _), List.take_of_length_le (by rw [Hl'.out]; exact Nat.le_refl _)] at h
              simp [h]
            clear Hs hr1 hr1' hr hr'
            go_wp2_with fail
            go_ret
            exact ⟨ret_bool H.out, below_drewN_t Hb.out _⟩
      · have H : Hid (false = sameB ⟨an, ac, av⟩ ⟨an, ac, bv⟩) := by
          show _ = _
          rw [Hs.out false]
          have : (av == bv) = false := beq_eq_false_iff_ne.2 (fun he => e3 (by rw [← Hl.out, ← Hl'.out, he]))
          simp [this]
        have t1 : (an != an) = false := by simp
        have t2 : (ac != ac) = false := by simp
        clear Hs
        go_enter Try.func25, Try.ntmps25
        go_wp2_with fail
        go_ret
        exact ⟨ret_bool H.out, Hb.out⟩
    · have H : Hid (false = sameB ⟨an, ac, av⟩ ⟨an, bc, bv⟩) := by show _ = _; rw [Hs.out false (by simp [e2])]
      have t2 : (ac == bc) = false := by simp [e2]
      have t1 : (an != an) = false := by simp
      clear Hs
      go_enter Try.func25, Try.ntmps25
      go_wp2_with fail
      go_ret
      exact ⟨ret_bool H.out, Hb.out⟩
  · have H : Hid (false = sameB ⟨an, ac, av⟩ ⟨bn, bc, bv⟩) := by show _ = _; rw [Hs.out false (by simp [e1])]
    have t1 : (an == bn) = false := by simp [e1]
    clear Hs
    go_enter Try.func25, Try.ntmps25
    go_wp2_with fail
    go_ret
    exact ⟨ret_bool H.out, Hb.out⟩

end Go.Proofs.Ytimlbpjdgnapoaa
