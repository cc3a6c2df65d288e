/- The contracts of term.Same, term.Is, term.Of, term.Least. -/
import Derived.Test.YtimlbpjdgnapoaaTermH
import Derived.Test.YtimlbpjdgnapoaaTermIs
import Derived.Test.YtimlbpjdgnapoaaMult
import Derived.Lib.CleanWalkFns
namespace Go.Proofs.Ytimlbpjdgnapoaa
set_option linter.unusedVariables false
set_option linter.unusedSimpArgs false
open Go.RowKit

theorem equal_any (A : Option Addr) (n c : Nat) (us : List Int) (A' : Option Addr) (n' c' : Nat) (us' : List Int) (w : World) (B B' : Nat) (h : RdI .i64 w B A n c us) (h' : RdI .i64 w B' A' n' c' us') :
    Calls Try.prog 60 #[.slice A n c, .slice A' n' c'] w fun e w' => e = .returned (.bool (us == us')) ∧ Below w.heap.size w w' := by
  have hl := h.len
  have hl' := h'.len
  have hc : c ≤ 9223372036854775807 := h.2.2
  have hc' : c' ≤ 9223372036854775807 := h'.2.2
  have hn := h.2.1
  have hn' := h'.2.1
  by_cases e : n = n'
  · subst e
    rcases Nat.eq_zero_or_pos n with h0 | h0
    · subst h0
      obtain rfl := List.eq_nil_of_length_eq_zero hl
      obtain rfl := List.eq_nil_of_length_eq_zero hl'
      refine (Try.slices_Equal_int_empty A A' c 0 c' w (by omega)).mono ?_
      rintro e w' ⟨rfl, rfl⟩
      exact ⟨rfl, Below.refl _ _⟩
    · obtain ⟨b, off, rfl, hb, hcell⟩ := h.at_ h0
      obtain ⟨b', off', rfl, hb', hcell'⟩ := h'.at_ h0
      refine (Try.slices_Equal_int b off n c b' off' n c' us us' w (by omega) (by omega) (by omega) (by omega) (fun j hj => by rw [hcell j hj]; simp [List.getD, hj]) (fun j hj => by rw [hcell' j hj]; simp [List.getD, hj])).mono ?_
      rintro e w' ⟨rfl, q, rfl⟩
      rw [List.take_of_length_le (by omega), List.take_of_length_le (by omega)]
      exact ⟨rfl, below_drewN_t (Below.refl _ _) q⟩
  · refine (Try.slices_Equal_int_lens A A' n c n' c' w e).mono ?_
    rintro e' w' ⟨rfl, rfl⟩
    refine ⟨?_, Below.refl _ _⟩
    have : (us == us') = false := beq_eq_false_iff_ne.2 (fun he => e (by rw [← hl, ← hl', he]))
    rw [this]

theorem same_any (v1 v2 : Value) (a b : TermD) (w : World) (B B' : Nat) (h1 : TermV w B v1 a) (h2 : TermV w B' v2 b) (hB : B ≤ w.heap.size) (hB' : B' ≤ w.heap.size) :
    Calls Try.prog 24 #[v1, v2] w fun e w' => e = .returned (.bool (sameB a b)) ∧ Below w.heap.size w w' := by
  obtain ⟨A, n, c, rfl, hr⟩ := h1
  obtain ⟨A', n', c', rfl, hr'⟩ := h2
  obtain ⟨an, ac, av⟩ := a
  obtain ⟨bn, bc, bv⟩ := b
  have hbel : Below w.heap.size w ((w.alloc (Obj.cells #[.bool an, .int .u8 ac, .slice A n c] 37)).alloc (Obj.cells #[.bool bn, .int .u8 bc, .slice A' n' c'] 37)) := ((Below.refl _ _).alloc (Nat.le_refl _) _).alloc (by simp) _
  have hq := equal_any A n c av A' n' c' bv _ _ _ ((hr.more hB).below hbel) ((hr'.more hB').below hbel)
  have Hq := Lib.hid hq
  have hs : ∀ x, (an == bn && ac == bc && av == bv) = x → sameB ⟨an, ac, av⟩ ⟨bn, bc, bv⟩ = x := fun x h => h
  have Hs := Lib.hid hs
  have Hb := Lib.hid hbel
  clear hq hs hbel hr hr'
  by_cases e1 : an = bn
  · subst e1
    by_cases e2 : ac = bc
    · subst e2
      have H : Hid ((av == bv) = sameB ⟨an, ac, av⟩ ⟨an, ac, bv⟩) := by show _ = _; rw [Hs.out (av == bv) (by simp)]
      clear Hs
      have t1 : (an == an) = true := by simp
      have t2 : (ac == ac) = true := by simp
      go_enter Try.func24, Try.ntmps24
      go_wp2_with fail
      refine Hq.out.mono ?_; rintro e w1 ⟨rfl, hb1⟩
      go_wp2_with fail
      go_ret
      exact ⟨ret_bool H.out, Hb.out.trans (hb1.mono Hb.out.size)⟩
    · have H : Hid (false = sameB ⟨an, ac, av⟩ ⟨an, bc, bv⟩) := by show _ = _; rw [Hs.out false (by simp [e2])]
      have t2 : (ac == bc) = false := by simp [e2]
      have t1 : (an == an) = true := by simp
      clear Hs e2 Hq
      go_enter Try.func24, Try.ntmps24
      go_wp2_with fail
      go_ret
      exact ⟨ret_bool H.out, Hb.out⟩
  · have H : Hid (false = sameB ⟨an, ac, av⟩ ⟨bn, bc, bv⟩) := by show _ = _; rw [Hs.out false (by simp [e1])]
    have t1 : (an == bn) = false := by simp [e1]
    clear Hs e1 Hq
    go_enter Try.func24, Try.ntmps24
    go_wp2_with fail
    go_ret
    exact ⟨ret_bool H.out, Hb.out⟩

theorem of_any_t (u : Int) (w : World) :
    Calls Try.prog 56 #[.int .u8 u] w (RetT (ofT u) w) := by
  by_cases h : u = 0
  · subst h
    have hbel : Below w.heap.size w (w.alloc (Obj.cells #[.bool true, .int .u8 0, .slice none 0 0] 37)) := (Below.refl _ _).alloc (Nat.le_refl _) _
    go_enter Try.func56, Try.ntmps56
    go_wp2_with fail
    exact bodyPost_ret (v := .agg #[.bool true, .int .u8 0, .slice none 0 0]) (by simp [results, Try.results56, go_sem]) rfl ⟨none, 0, 0, rfl, RdI.nil, hbel⟩
  · have hb : (u == 0) = false := by simp [h]
    have hj : ofT u = ⟨false, leastI u, []⟩ := by unfold ofT; rw [if_neg h]
    have Hj := Lib.hid hj
    clear hj h
    go_enter Try.func56, Try.ntmps56
    go_wp2_with (first | (go_at_call 40; refine (least_any _ _).mono ?_; rintro e w' ⟨rfl, rfl⟩))
    have hbel : Below w.heap.size w (w.alloc (Obj.cells #[.bool false, .int .u8 (leastI u), .slice none 0 0] 37)) := (Below.refl _ _).alloc (Nat.le_refl _) _
    exact bodyPost_ret (v := .agg #[.bool false, .int .u8 (leastI u), .slice none 0 0]) (by simp [results, Try.results56, go_sem]) rfl (by rw [Hj.out]; exact ⟨none, 0, 0, rfl, RdI.nil, hbel⟩)

/-- what Clone returns, at ints -/
def CloneI (us : List Int) (n : Nat) (w : World) (e : Ending) (w' : World) : Prop :=
  ∃ A' c', e = .returned (.slice A' n c') ∧ w'.ownsRow w.heap.size 3 1 (.slice A' n c') n (us.map (Value.int .i64)) ∧ Below w.heap.size w w'
theorem cloneI_any (A : Option Addr) (n c : Nat) (us : List Int) (w : World) (B : Nat) (h : RdI .i64 w B A n c us) (hbig : n * 8 ≤ 140737488355328) :
    Calls Try.prog 67 #[.slice A n c] w (CloneI us n w) := by
  have hl := h.len
  have hcut : ∀ v' w', World.ownsRow w' w.heap.size 3 1 v' n (us.map (Value.int .i64)) → Below w.heap.size w w' → CloneI us n w (.returned v') w' := by
    intro v' w' ho hb
    rcases ho.2 with ⟨e0, hn0⟩ | ⟨g, cap, cur, e0, _⟩
    · subst hn0
      obtain rfl := List.eq_nil_of_length_eq_zero hl
      exact ⟨none, 0, by rw [e0], by rw [← e0]; exact ho, hb⟩
    · exact ⟨some ⟨g, 0, none⟩, cap, by rw [e0], by rw [← e0]; exact ho, hb⟩
  rcases Nat.eq_zero_or_pos n with h0 | h0
  · subst h0
    obtain rfl := List.eq_nil_of_length_eq_zero hl
    cases A with
    | none =>
      refine (Try.slices_Clone_int_nil 0 c w).mono ?_
      rintro e w' ⟨rfl, rfl⟩
      exact hcut _ _ (World.ownsRow_nil _ _ _ _) (Below.refl _ _)
    | some a =>
      refine (Try.slices_Clone_int_zero a c w).mono ?_
      rintro e w' ⟨v', rfl, ho, _, hb⟩
      exact hcut _ _ ho hb
  · obtain ⟨b, off, rfl, hb, hcell⟩ := h.at_ h0
    refine (Try.slices_Clone_int b off n c us w (by omega) hbig (fun j hj => by rw [hcell j hj]; simp [List.getD, hj])).mono ?_
    rintro e w' ⟨v', rfl, ho, _, hb⟩
    rw [List.take_of_length_le (by omega)] at ho
    exact hcut _ _ ho hb

end Go.Proofs.Ytimlbpjdgnapoaa
