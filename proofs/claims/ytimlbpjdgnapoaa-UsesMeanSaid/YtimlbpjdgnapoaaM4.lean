/- Texts of this claim, laid one behind the other: RefO, PlA, RefDef, RefT, RefS, RefX. -/
import Derived.Test.YtimlbpjdgnapoaaM1
import Derived.Deep.QuietTactic
import Derived.BigQuiet
import Derived.IntWalk
/- The contract of usufructref01.Of. -/
namespace Go.Proofs.Ytimlbpjdgnapoaa
set_option linter.unusedVariables false
set_option linter.unusedSimpArgs false
open Go.RowKit

def ofI (m : Int) : Int := if m = 0 then 1 else if m = 1 then 1 else if m = 2 then 2 else 3

end Go.Proofs.Ytimlbpjdgnapoaa

/- Plain facts on lists that rise. No program's function. -/
namespace Go.Proofs.Ytimlbpjdgnapoaa
set_option linter.unusedVariables false
set_option linter.unusedSimpArgs false
open Go Go.RowKit

/-! Plain facts on lists that rise. No program. -/
/-- a list that rises -/
def Rises (l : List Int) : Prop := l.Pairwise (· < ·)
theorem rises_ext : ∀ (a b : List Int), Rises a → Rises b → (∀ x, x ∈ a ↔ x ∈ b) → a = b
  | [], [], _, _, _ => rfl
  | [], y :: b, _, _, h => by have := (h y).2 (by simp); simp at this
  | x :: a, [], _, _, h => by have := (h x).1 (by simp); simp at this
  | x :: a, y :: b, ha, hb, h => by
    obtain ⟨ha1, ha2⟩ := List.pairwise_cons.1 ha
    obtain ⟨hb1, hb2⟩ := List.pairwise_cons.1 hb
    have hxy : x = y := by
      rcases List.mem_cons.1 ((h x).1 (by simp)) with e | hx
      · exact e
      · rcases List.mem_cons.1 ((h y).2 (by simp)) with e | hy
        · exact e.symm
        · have h1 := hb1 x hx
          have h2 := ha1 y hy
          omega
    subst hxy
    congr 1
    refine rises_ext a b ha2 hb2 fun z => ⟨fun hz => ?_, fun hz => ?_⟩
    · rcases List.mem_cons.1 ((h z).1 (List.mem_cons_of_mem _ hz)) with e | hz'
      · have := ha1 z hz; omega
      · exact hz'
    · rcases List.mem_cons.1 ((h z).2 (List.mem_cons_of_mem _ hz)) with e | hz'
      · have := hb1 z hz; omega
      · exact hz'

theorem compactUpTo_facts (l : List Int) (hs : l.Pairwise (· ≤ ·)) : ∀ m, m ≤ l.length →
    Rises (Lib.compactUpTo l.toArray m) ∧ (∀ x, x ∈ Lib.compactUpTo l.toArray m ↔ x ∈ l.take m) ∧ ∀ x ∈ Lib.compactUpTo l.toArray m, 0 < m ∧ x ≤ l.getD (m - 1) 0
  | 0, _ => by simp [Lib.compactUpTo, Rises]
  | m + 1, hm => by
    obtain ⟨h1, h2, h3⟩ := compactUpTo_facts l hs m (by omega)
    have hlt : m < l.length := by omega
    have hget : l.toArray[m]! = l[m] := by simp [hlt]
    have hgd : l.getD m 0 = l[m] := by simp [List.getD, hlt]
    rw [Lib.compactUpTo_succ]
    have htk : l.take (m + 1) = l.take m ++ [l[m]] := List.take_succ_eq_append_getElem hlt
    have hle : ∀ x ∈ Lib.compactUpTo l.toArray m, x ≤ l[m] := by
      intro x hx
      obtain ⟨hp, hx1⟩ := h3 x hx
      have hm1 : m - 1 < l.length := by omega
      rw [show l.getD (m - 1) 0 = l[m - 1] from by simp [List.getD, hm1]] at hx1
      have := List.pairwise_iff_getElem.1 hs (m - 1) m hm1 hlt (by omega)
      omega
    by_cases hk : Lib.keeps l.toArray m = true
    · rw [if_pos hk, hget]
      have hlast : ∀ x ∈ Lib.compactUpTo l.toArray m, x < l[m] := by
        intro x hx
        obtain ⟨hp, hx1⟩ := h3 x hx
        have hm1 : m - 1 < l.length := by omega
        rw [show l.getD (m - 1) 0 = l[m - 1] from by simp [List.getD, hm1]] at hx1
        have hne : l[m] ≠ l[m - 1] := by
          have := of_decide_eq_true hk
          rcases this with h | h
          · omega
          · rw [hget, show l.toArray[m - 1]! = l[m - 1] from by simp [hm1]] at h
            exact h
        have := List.pairwise_iff_getElem.1 hs (m - 1) m hm1 hlt (by omega)
        omega
      refine ⟨?_, fun x => ?_, fun x hx => ⟨by omega, ?_⟩⟩
      · refine List.pairwise_append.2 ⟨h1, by simp, fun a ha b hb => ?_⟩
        rw [List.mem_singleton] at hb
        subst hb
        exact hlast a ha
      · rw [htk, List.mem_append, List.mem_append, h2]
      · rw [Nat.add_sub_cancel, hgd]
        rcases List.mem_append.1 hx with h | h
        · exact hle x h
        · rw [List.mem_singleton] at h; omega
    · rw [if_neg hk, List.append_nil]
      have hk' : Lib.keeps l.toArray m = false := by simpa using hk
      have hp : 0 < m ∧ l[m] = l[m - 1]'(by omega) := by
        have := of_decide_eq_false hk'
        rw [not_or, Decidable.not_not] at this
        have hm1 : m - 1 < l.length := by omega
        rw [hget, show l.toArray[m - 1]! = l[m - 1] from by simp [hm1]] at this
        exact ⟨by omega, this.2⟩
      refine ⟨h1, fun x => ?_, fun x hx => ⟨by omega, ?_⟩⟩
      · rw [htk, List.mem_append, h2, List.mem_singleton]
        refine ⟨.inl, fun h => ?_⟩
        rcases h with h | h
        · exact h
        · subst h
          rw [hp.2, List.mem_take_iff_getElem]
          exact ⟨m - 1, by omega, rfl⟩
      · rw [Nat.add_sub_cancel, hgd]
        exact hle x hx

theorem sset_rises (l : List Int) : Rises (sset l) ∧ ∀ x, x ∈ sset l ↔ x ∈ l := by
  have hs : (l.mergeSort fun x y => decide (x ≤ y)).Pairwise (· ≤ ·) := by
    have := List.pairwise_mergeSort (le := fun x y : Int => decide (x ≤ y)) (fun a b c h1 h2 => by simp at *; omega) (fun a b => by simp; omega) l
    exact this.imp fun h => by simpa using h
  obtain ⟨h1, h2, _⟩ := compactUpTo_facts _ hs _ (Nat.le_refl _)
  refine ⟨h1, fun x => ?_⟩
  rw [List.take_of_length_le (Nat.le_refl _)] at h2
  exact (h2 x).trans List.mem_mergeSort
theorem sset_eq {l m : List Int} (hm : Rises m) (h : ∀ x, x ∈ m ↔ x ∈ l) : sset l = m :=
  rises_ext _ _ (sset_rises l).1 hm fun x => ((sset_rises l).2 x).trans (h x).symm
theorem sset_self {l : List Int} (hl : Rises l) : sset l = l := sset_eq hl fun _ => Iff.rfl
theorem sset_nil : sset [] = [] := sset_self List.Pairwise.nil
theorem sset_congr {l m : List Int} (h : ∀ x, x ∈ l ↔ x ∈ m) : sset l = sset m := sset_eq (sset_rises m).1 fun x => ((sset_rises m).2 x).trans (h x).symm
theorem sset_ne {l : List Int} (h : l ≠ []) : sset l ≠ [] := by
  intro e
  cases l with
  | nil => exact h rfl
  | cons x r =>
    have := ((sset_rises (x :: r)).2 x).2 (by simp)
    rw [e] at this
    simp at this

/-- May, said plainly -/
theorem may_iff (t : TermD) : mayB t = true ↔ (t.never = true ∧ t.c = 0 ∧ t.vars = []) ∨ (t.never = false ∧ 1 ≤ t.c ∧ t.c ≤ 3 ∧ (t.c = 3 → t.vars = []) ∧ Rises t.vars ∧ ∀ v ∈ t.vars, 0 ≤ v ∧ v < 1048576) := by
  obtain ⟨nv, c, l⟩ := t
  have hv : ∀ n, n ≤ l.length → (varsB l n = true ↔ Rises (l.take n) ∧ ∀ v ∈ l.take n, 0 ≤ v ∧ v < 1048576) := by
    intro n
    induction n with
    | zero => intro _; simp [varsB, Rises]
    | succ n ih =>
      intro hn
      have hlt : n < l.length := by omega
      have hgd : l.getD n 0 = l[n] := by simp [List.getD, hlt]
      rw [varsB, Bool.and_eq_true, ih (by omega), List.take_succ_eq_append_getElem hlt]
      unfold varB
      rw [hgd]
      simp only [Bool.and_eq_true, Bool.or_eq_true, decide_eq_true_eq]
      constructor
      · rintro ⟨⟨h1, h2⟩, ⟨h3, h4⟩, h5⟩
        refine ⟨List.pairwise_append.2 ⟨h1, by simp, fun a ha b hb => ?_⟩, fun v hv => ?_⟩
        · rw [List.mem_singleton] at hb
          subst hb
          obtain ⟨i, hi, rfl⟩ := List.mem_take_iff_getElem.1 ha
          have hi' : i < n := by omega
          rcases h5 with h5 | h5
          · omega
          · have hn1 : n - 1 < l.length := by omega
            rw [show l.getD (n - 1) 0 = l[n - 1] from by simp [List.getD, hn1]] at h5
            rcases Nat.lt_or_ge i (n - 1) with hlt' | hge
            · have := List.pairwise_iff_getElem.1 h1 i (n - 1) (by simp; omega) (by simp; omega) hlt'
              simp at this
              omega
            · have : i = n - 1 := by omega
              subst this
              exact h5
        · rcases List.mem_append.1 hv with h | h
          · exact h2 v h
          · rw [List.mem_singleton] at h; subst h; exact ⟨h3, h4⟩
      · rintro ⟨h1, h2⟩
        obtain ⟨p1, _, p3⟩ := List.pairwise_append.1 h1
        refine ⟨⟨p1, fun v hv => h2 v (List.mem_append_left _ hv)⟩, h2 _ (List.mem_append_right _ (List.mem_singleton.2 rfl)), ?_⟩
        rcases Nat.eq_zero_or_pos n with h | h
        · exact .inl h
        · have hn1 : n - 1 < l.length := by omega
          rw [show l.getD (n - 1) 0 = l[n - 1] from by simp [List.getD, hn1]]
          exact .inr (p3 _ (List.mem_take_iff_getElem.2 ⟨n - 1, by omega, rfl⟩) _ (by simp))
  unfold mayB oneB
  cases nv
  · simp only [Bool.false_eq_true, if_false, false_and, false_or, Bool.and_eq_true, decide_eq_true_eq]
    rw [hv _ (Nat.le_refl _), List.take_of_length_le (Nat.le_refl _)]
    simp only [Bool.not_eq_true', Bool.and_eq_false_iff, beq_eq_false_iff_ne, Bool.not_eq_false', List.isEmpty_iff]
    constructor
    · rintro ⟨⟨⟨h1, h2⟩, h3⟩, h4, h5⟩
      exact ⟨trivial, h1, h2, fun e => h3.resolve_left (fun h => h e), h4, h5⟩
    · rintro ⟨_, h1, h2, h3, h4, h5⟩
      refine ⟨⟨⟨h1, h2⟩, ?_⟩, h4, h5⟩
      by_cases e : c = 3
      · exact .inr (h3 e)
      · exact .inl e
  · simp

end Go.Proofs.Ytimlbpjdgnapoaa

/- What the reference computes of terms, as plain functions of lists and integers. -/
namespace Go.Proofs.Ytimlbpjdgnapoaa
set_option linter.unusedVariables false
set_option linter.unusedSimpArgs false
open Go.RowKit

def insL (out : List Int) (x : Int) : List Int := if out.contains x then out else out ++ [x]
def bothGo : List Int → List Int → List Int → List Int
  | [], [], out => out
  | x :: a, [], out => bothGo a [] (insL out x)
  | [], y :: b, out => bothGo [] b (insL out y)
  | x :: a, y :: b, out => if x ≤ y then bothGo a (y :: b) (insL out x) else bothGo (x :: a) b (insL out y)
termination_by a b _ => a.length + b.length
def greatT (a b : TermD) : TermD :=
  if max a.c b.c = 3 then ⟨false, 3, []⟩ else ⟨false, max a.c b.c, bothGo a.vars b.vars []⟩
def rJoin (a b : TermD) : TermD :=
  if a.never && b.never then a else if a.never then greatT ⟨false, 2, []⟩ b else if b.never then greatT ⟨false, 2, []⟩ a else greatT a b
def rSum (a b : TermD) : TermD := if a.never then b else if b.never then a else ⟨false, 3, []⟩
def rScale (c v : Int) (t : TermD) : TermD := if t.never then t else if c ≠ 0 then greatT ⟨false, c, []⟩ t else greatT ⟨false, 1, [v]⟩ t
def rAtGo (asg : List Int) : Int → List Int → Int × Int
  | top, [] => (ofI top, 0)
  | top, v :: r => if okV asg v then rAtGo asg (max top (atV asg v)) r else (0, 5)
def rAt (t : TermD) (asg : List Int) : Int × Int := if t.never then (0, 0) else rAtGo asg t.c t.vars

end Go.Proofs.Ytimlbpjdgnapoaa

/- The contracts of package usufructref02. -/
namespace Go.Proofs.Ytimlbpjdgnapoaa
set_option linter.unusedVariables false
set_option linter.unusedSimpArgs false
open Go.RowKit

theorem has_any (A : Option Addr) (n c : Nat) (us : List Int) (v : Int) (w : World) (B : Nat) (h : RdI .i64 w B A n c us) (hB : B ≤ w.heap.size) :
    Calls Try.prog 100 #[.slice A n c, .int .i64 v] w fun e w' => e = .returned (.bool (us.contains v)) ∧ Below w.heap.size w w' := by
  have hl := h.len
  have Hl := Lib.hid hl
  clear hl
  have hn63 : n ≤ 9223372036854775807 := Nat.le_trans h.2.1 h.2.2
  go_enter Try.func100, Try.ntmps100
  go_wp2_with fail
  go_loopg [5] n (fun g i wr => ∃ k : Nat, k ≤ n ∧ g = n - k ∧ i = .int .i64 k ∧ (us.take k).contains v = false ∧ Below w.heap.size w wr)
  case atStart => exact ⟨0, Nat.zero_le _, rfl, rfl, by simp, Below.refl _ _⟩
  case round =>
    obtain ⟨k, hk, rfl, rfl, hno, hbel⟩ := hrel
    have Hno := Lib.hid hno
    clear hno
    by_cases hlk : k < n
    · have hk' : k < us.length := by rw [Hl.out]; exact hlk
      obtain ⟨b, off, rfl, hb, hcell⟩ := ((h.more hB).below hbel).at_ (by omega)
      have hc := hcell k hk'
      have hstep : (us.take (k + 1)).contains v = (us[k] == v) := by
        rw [List.take_succ_eq_append_getElem hk', List.contains_eq_any_beq, List.any_append, ← List.contains_eq_any_beq, Hno.out]
        simp [Bool.beq_comm, eq_comm]
      have Hstep := Lib.hid hstep
      clear hstep hcell h
      by_cases e : us[k] = v
      · have e1 : (us[k] == v) = true := by simp [e]
        have hin : us.contains v = true := by rw [List.contains_iff_mem, ← e]; exact List.getElem_mem _
        have Hin := Lib.hid hin
        clear hin e
        go_wp2_with fail
        go_ret
        exact ⟨by rw [Hin.out]; rfl, by first | exact hbel | exact hbel.drew⟩
      · have e1 : (us[k] == v) = false := by simp [e]
        clear e
        go_wp2_with fail
        go_roundg (n - (k + 1))
        case measure => omega
        case rel => exact ⟨k + 1, by omega, rfl, by go_num, by rw [Hstep.out, e1], by first | exact hbel | exact hbel.drew⟩
    · have hkn : k = n := by omega
      subst hkn
      have hall : us.contains v = false := by
        have := Hno.out
        rw [List.take_of_length_le (by rw [Hl.out]; exact Nat.le_refl _)] at this
        exact this
      have Hall := Lib.hid hall
      clear hall
      go_wp2_with fail
      go_ret
      exact ⟨by rw [Hall.out]; rfl, hbel⟩

end Go.Proofs.Ytimlbpjdgnapoaa

/- The contracts of usufructref02.Same, both. (in progress) -/
namespace Go.Proofs.Ytimlbpjdgnapoaa
set_option linter.unusedVariables false
set_option linter.unusedSimpArgs false
open Go.RowKit

theorem refSame_any (v1 v2 : Value) (a b : TermD) (w : World) (B B' : Nat) (h1 : TermV w B v1 a) (h2 : TermV w B' v2 b) (hB : B ≤ w.heap.size) (hB' : B' ≤ w.heap.size) :
    Calls Try.prog 25 #[v1, v2] w fun e w' => e = .returned (.bool (sameB a b)) ∧ Below w.heap.size w w' := by
  obtain ⟨A, n, c, rfl, hr⟩ := h1
  obtain ⟨A', n', c', rfl, hr'⟩ := h2
  obtain ⟨an, ac, av⟩ := a
  obtain ⟨bn, bc, bv⟩ := b
  have hl := hr.len
  have hl' := hr'.len
  have hn63 : n ≤ 9223372036854775807 := Nat.le_trans hr.2.1 hr.2.2
  have hbel : Below w.heap.size w ((w.alloc (Obj.cells #[.bool an, .int .u8 ac, .slice A n c] 37)).alloc (Obj.cells #[.bool bn, .int .u8 bc, .slice A' n' c'] 37)) := ((Below.refl _ _).alloc (Nat.le_refl _) _).alloc (by simp) _
  have hs : ∀ x, (an == bn && ac == bc && av == bv) = x → sameB ⟨an, ac, av⟩ ⟨bn, bc, bv⟩ = x := fun x h => h
  have Hs := Lib.hid hs
  have Hb := Lib.hid hbel
  have Hl := Lib.hid hl
  have Hl' := Lib.hid hl'
  clear hs hbel hl hl'
  by_cases e1 : an = bn
  · subst e1
    by_cases e2 : ac = bc
    · subst e2
      by_cases e3 : n = n'
      · subst e3
        have t1 : (an != an) = false := by simp
        have t2 : (ac != ac) = false := by simp
        have hr1 := (hr.more hB).below Hb.out
        have hr1' := (hr'.more hB').below Hb.out
        have s1 := ((blk_new w #[.bool an, .int .u8 ac, .slice A n c] 37).alloc (Obj.cells #[.bool an, .int .u8 ac, .slice A' n c'] 37)).cell 2
        have s2 := (blk_new (w.alloc (Obj.cells #[.bool an, .int .u8 ac, .slice A n c] 37)) #[.bool an, .int .u8 ac, .slice A' n c'] 37).cell 2
        rw [World.size_alloc] at s2
        have s1' : w.heap.size < ((w.alloc (Obj.cells #[.bool an, .int .u8 ac, .slice A n c] 37)).alloc (Obj.cells #[.bool an, .int .u8 ac, .slice A' n c'] 37)).heap.size := by simp; omega
        go_enter Try.func25, Try.ntmps25
        go_wp2_with fail
        generalize ((w.alloc (Obj.cells #[.bool an, .int .u8 ac, .slice A n c] 37)).alloc (Obj.cells #[.bool an, .int .u8 ac, .slice A' n c'] 37)) = W at Hb hr1 hr1' s1 s2 s1' ⊢
        have hlw : w.heap.size < W.heap.size := s1'
        go_loopg [5] n (fun g i wr => ∃ k q : Nat, k ≤ n ∧ g = n - k ∧ i = .int .i64 k ∧ Hid (av.take k = bv.take k) ∧ W.drewN q = wr)
        case atStart => exact ⟨0, 0, Nat.zero_le _, rfl, rfl, Lib.hid rfl, rfl⟩
        case round =>
          obtain ⟨k, q, hk, rfl, rfl, He, rfl⟩ := hrel
          by_cases hlk : k < n
          · obtain ⟨b1, o1, rfl, hb1, hc1⟩ := hr1.at_ (by omega)
            obtain ⟨b2, o2, rfl, hb2, hc2⟩ := hr1'.at_ (by omega)
            have hk1 : k < av.length := by rw [Hl.out]; exact hlk
            have hk2 : k < bv.length := by rw [Hl'.out]; exact hlk
            have x1 := hc1 k hk1
            have x2 := hc2 k hk2
            have i1 : (0 : Int) ≤ (k : Int) := by omega
            have i2 : (k : Int) < (n : Int) := by omega
            have Hn := Lib.hid (show av.take (k + 1) = bv.take (k + 1) ↔ av[k] = bv[k] by
              rw [List.take_succ_eq_append_getElem hk1, List.take_succ_eq_append_getElem hk2, He.out, List.append_cancel_left_eq, List.cons.injEq]; simp)
            have Hf := Lib.hid (fun h : av[k] ≠ bv[k] => (show false = sameB ⟨an, ac, av⟩ ⟨an, ac, bv⟩ from by
              rw [Hs.out false]
              have : (av == bv) = false := beq_eq_false_iff_ne.2 (fun he => h (by subst he; rfl))
              simp [this]))
            clear hc1 hc2 hr1 hr1' hr hr' Hs
            by_cases e : av[k] = bv[k]
            · have e1 : (av[k] != bv[k]) = false := by simp [e]
              have Hn' := Lib.hid (Hn.out.2 e)
              clear e Hf Hn
              go_wp2_with fail
              go_quiet (fail)
              go_wp2_with fail
              go_roundg (n - (k + 1))
              case measure => omega
              case rel => exact ⟨k + 1, _, by omega, rfl, by go_num, Hn', rfl⟩
            · have e1 : (av[k] != bv[k]) = true := by simp [e]
              have Hf' := Lib.hid (Hf.out e)
              clear e Hf Hn
              go_wp2_with fail
              go_quiet (fail)
              go_wp2_with fail
              go_ret
              exact ⟨ret_bool Hf'.out, below_drewN_t (below_drewN_t Hb.out _) _⟩
          · have hkn : k = n := by omega
            subst hkn
            have H : Hid (true = sameB ⟨an, ac, av⟩ ⟨an, ac, bv⟩) := by
              show _ = _
              rw [Hs.out true]
              have h := He.out
              rw [List.take_of_length_le (by rw [Hl.out]; exact Nat.le_refl _), List.take_of_length_le (by rw [Hl'.out]; exact Nat.le_refl _)] at h
              simp [h]
            clear Hs hr1 hr1' hr hr'
            go_wp2_with fail
            go_ret
            exact ⟨ret_bool H.out, below_drewN_t Hb.out _⟩
      · have H : Hid (false = sameB ⟨an, ac, av⟩ ⟨an, ac, bv⟩) := by
          show _ = _
          rw [Hs.out false]
          have : (av == bv) = false := beq_eq_false_iff_ne.2 (fun he => e3 (by rw [← Hl.out, ← Hl'.out, he]))
          simp [this]
        have t1 : (an != an) = false := by simp
        have t2 : (ac != ac) = false := by simp
        clear Hs
        go_enter Try.func25, Try.ntmps25
        go_wp2_with fail
        go_ret
        exact ⟨ret_bool H.out, Hb.out⟩
    · have H : Hid (false = sameB ⟨an, ac, av⟩ ⟨an, bc, bv⟩) := by show _ = _; rw [Hs.out false (by simp [e2])]
      have t2 : (ac == bc) = false := by simp [e2]
      have t1 : (an != an) = false := by simp
      clear Hs
      go_enter Try.func25, Try.ntmps25
      go_wp2_with fail
      go_ret
      exact ⟨ret_bool H.out, Hb.out⟩
  · have H : Hid (false = sameB ⟨an, ac, av⟩ ⟨bn, bc, bv⟩) := by show _ = _; rw [Hs.out false (by simp [e1])]
    have t1 : (an == bn) = false := by simp [e1]
    clear Hs
    go_enter Try.func25, Try.ntmps25
    go_wp2_with fail
    go_ret
    exact ⟨ret_bool H.out, Hb.out⟩

end Go.Proofs.Ytimlbpjdgnapoaa

/- The contracts of usufructref02.At, May. -/
namespace Go.Proofs.Ytimlbpjdgnapoaa
set_option linter.unusedVariables false
set_option linter.unusedSimpArgs false
open Go.RowKit



def may0 (t : TermD) : Bool := oneB t.c && !(t.c == 3 && !t.vars.isEmpty)
theorem mayB_false (c : Int) (l : List Int) : mayB ⟨false, c, l⟩ = (may0 ⟨false, c, l⟩ && varsB l l.length) := rfl

set_option maxHeartbeats 2000000 in
theorem refMay_t (v : Value) (t : TermD) (w : World) (B : Nat) (hv : TermV w B v t) (hB : B ≤ w.heap.size) :
    Calls Try.prog 29 #[v] w fun e w' => e = .returned (.bool (mayB t)) ∧ Below w.heap.size w w' := by
  obtain ⟨A, n, c, rfl, hr⟩ := hv
  obtain ⟨tn, tc, tv⟩ := t
  have hl := hr.len
  have hn63 : n ≤ 9223372036854775807 := Nat.le_trans hr.2.1 hr.2.2
  have hbel := below_box (w := w) (Obj.cells #[.bool tn, .int .u8 tc, .slice A n c] 37)
  have hr1 := (hr.more hB).below hbel
  have hself := blk_new w #[.bool tn, .int .u8 tc, .slice A n c] 37
  have hempty : tv.isEmpty = decide (n = 0) := by
    cases tv with
    | nil => simp at hl; simp [← hl]
    | cons x r => simp at hl; simp; omega
  have Hl := Lib.hid hl
  clear hl hr
  cases tn
  · have H0 : Hid (may0 ⟨false, tc, tv⟩ = (decide (1 ≤ tc) && decide (tc ≤ 3) && (!(tc == 3) || decide (n = 0)))) := by
      show _ = _
      simp only [may0, oneB, hempty, Bool.not_and, Bool.not_not]
    clear hempty
    obtain ⟨b0, hb0⟩ : ∃ b, (decide (1 ≤ tc) && decide (tc ≤ 3) && (!(tc == 3) || decide (n = 0))) = b := ⟨_, rfl⟩
    have H0' : Hid (may0 ⟨false, tc, tv⟩ = b0) := by show _ = _; rw [H0.out, hb0]
    clear H0
    have hways : (decide (1 ≤ tc) = false ∧ b0 = false) ∨ (decide (1 ≤ tc) = true ∧ decide (tc ≤ 3) = false ∧ b0 = false) ∨ (decide (1 ≤ tc) = true ∧ decide (tc ≤ 3) = true ∧ (tc != 3) = true ∧ b0 = true) ∨
        (decide (1 ≤ tc) = true ∧ decide (tc ≤ 3) = true ∧ (tc != 3) = false ∧ ((n : Int) == 0) = true ∧ b0 = true) ∨ (decide (1 ≤ tc) = true ∧ decide (tc ≤ 3) = true ∧ (tc != 3) = false ∧ ((n : Int) == 0) = false ∧ b0 = false) := by
      subst hb0
      by_cases h1 : 1 ≤ tc
      · by_cases h2 : tc ≤ 3
        · by_cases h3 : tc = 3
          · by_cases h4 : n = 0
            · subst h3; subst h4; simp
            · subst h3; simp [h4]
          · simp [h1, h2, h3]
        · simp [h1, h2]
      · simp [h1]
    clear hb0
    rcases hways with ⟨d1, rfl⟩ | ⟨d1, d2, rfl⟩ | ⟨d1, d2, d3, rfl⟩ | ⟨d1, d2, d3, d4, rfl⟩ | ⟨d1, d2, d3, d4, rfl⟩
    ·
      go_enter Try.func29, Try.ntmps29
      go_wp2_with fail
      generalize w.alloc (Obj.cells #[.bool false, .int .u8 tc, .slice A n c] 37) = W at hbel hr1 hself ⊢
      have c2 : W.cell? ⟨w.heap.size, 2, none⟩ = some (.slice A n c) := hself.cell 2
      have Hr := Lib.hid hr1
      clear hr1 hself
      clear d1
      go_loopg [3, 4] n (fun g o i wr => ∃ k q : Nat, k ≤ n ∧ g = n - k ∧ i = .int .i64 k ∧ o = .bool false ∧ W.drewN q = wr)
      case atStart => exact ⟨0, 0, Nat.zero_le _, rfl, rfl, rfl, rfl⟩
      case round =>
        obtain ⟨k, q, hk, rfl, rfl, rfl, rfl⟩ := hrel
        by_cases hlk : k < n
        · go_wp2_with fail
          go_quiet (fail)
          go_wp2_with fail
          go_roundg (n - (k + 1))
          case measure => omega
          case rel => exact ⟨k + 1, _, by omega, rfl, by go_num, rfl, rfl⟩
        · have HF : Hid (false = mayB ⟨false, tc, tv⟩) := by show _ = _; rw [mayB_false, H0'.out, Bool.false_and]
          go_wp2_with fail
          go_ret
          exact ⟨ret_bool HF.out, below_drewN_t hbel _⟩
    ·
      go_enter Try.func29, Try.ntmps29
      go_wp2_with fail
      generalize w.alloc (Obj.cells #[.bool false, .int .u8 tc, .slice A n c] 37) = W at hbel hr1 hself ⊢
      have c2 : W.cell? ⟨w.heap.size, 2, none⟩ = some (.slice A n c) := hself.cell 2
      have Hr := Lib.hid hr1
      clear hr1 hself
      clear d1
      go_loopg [3, 4] n (fun g o i wr => ∃ k q : Nat, k ≤ n ∧ g = n - k ∧ i = .int .i64 k ∧ o = .bool false ∧ W.drewN q = wr)
      case atStart => exact ⟨0, 0, Nat.zero_le _, rfl, rfl, rfl, rfl⟩
      case round =>
        obtain ⟨k, q, hk, rfl, rfl, rfl, rfl⟩ := hrel
        by_cases hlk : k < n
        · go_wp2_with fail
          go_quiet (fail)
          go_wp2_with fail
          go_roundg (n - (k + 1))
          case measure => omega
          case rel => exact ⟨k + 1, _, by omega, rfl, by go_num, rfl, rfl⟩
        · have HF : Hid (false = mayB ⟨false, tc, tv⟩) := by show _ = _; rw [mayB_false, H0'.out, Bool.false_and]
          go_wp2_with fail
          go_ret
          exact ⟨ret_bool HF.out, below_drewN_t hbel _⟩
    ·
      go_enter Try.func29, Try.ntmps29
      go_wp2_with fail
      generalize w.alloc (Obj.cells #[.bool false, .int .u8 tc, .slice A n c] 37) = W at hbel hr1 hself ⊢
      have c2 : W.cell? ⟨w.heap.size, 2, none⟩ = some (.slice A n c) := hself.cell 2
      have Hr := Lib.hid hr1
      clear hr1 hself
      clear d1
      go_loopg [3, 4] n (fun g o i wr => ∃ (k q : Nat) (b : Bool), k ≤ n ∧ g = n - k ∧ i = .int .i64 k ∧ o = .bool b ∧ Hid (varsB tv k = b) ∧ W.drewN q = wr)
      case atStart => exact ⟨0, 0, true, Nat.zero_le _, rfl, rfl, rfl, Lib.hid rfl, rfl⟩
      case round =>
        obtain ⟨k, q, b, hk, rfl, rfl, rfl, Hb, rfl⟩ := hrel
        by_cases hlk : k < n
        · have hk' : k < tv.length := by rw [Hl.out]; exact hlk
          have hg : tv.getD k 0 = tv[k] := by simp [List.getD, hk']
          have Hs : Hid (∀ x, varB tv k = x → varsB tv (k + 1) = (b && x)) := by
            show ∀ x, _
            intro x hx
            rw [← hx, ← Hb.out]
            rfl
          cases b
          · have Hn := Lib.hid (Hs.out _ rfl)
            rw [Bool.false_and] at Hn
            clear Hs hg
            go_wp2_with fail
            go_quiet (fail)
            go_wp2_with fail
            go_roundg (n - (k + 1))
            case measure => omega
            case rel => exact ⟨k + 1, _, _, by omega, rfl, by go_num, rfl, Hn, rfl⟩
          · obtain ⟨bb, off, rfl, hb, hcell⟩ := Hr.out.at_ (by omega)
            have hc1 := hcell k hk'
            have i1 : (0 : Int) ≤ (k : Int) := by omega
            have i2 : (k : Int) < (n : Int) := by omega
            have Hg := Lib.hid hg
            have Hcell := Lib.hid hcell
            clear hg hcell
            by_cases c1 : 0 ≤ tv[k]
            · have e1 : decide (0 ≤ tv[k]) = true := by simpa using c1
              by_cases c3 : tv[k] < 1048576
              · have e2 : decide (tv[k] < 1048576) = true := by simpa using c3
                by_cases c4 : k = 0
                · subst c4
                  have hc0 : W.cell? ⟨bb, off, none⟩ = some (.int .i64 (tv[0]'hk')) := hc1
                  have Hn := Lib.hid (Hs.out true (by unfold varB; rw [Hg.out, e1, e2]; rfl))
                  rw [Bool.true_and] at Hn
                  clear Hs c1 c3
                  go_wp2_with fail
                  go_quiet (fail)
                  go_wp2_with fail
                  go_roundg (n - (0 + 1))
                  case measure => omega
                  case rel => exact ⟨0 + 1, _, _, by omega, rfl, by go_num, rfl, Hn, rfl⟩
                · have hk1 : k - 1 < tv.length := by omega
                  have hg1 : tv.getD (k - 1) 0 = tv[k - 1] := by simp [List.getD, hk1]
                  have Hg1 := Lib.hid hg1
                  have hc2 : W.cell? ⟨bb, off + (k - 1), none⟩ = some (.int .i64 (tv[k - 1]'hk1)) := Hcell.out (k - 1) hk1
                  have i3 : IntKind.i64.wrap ((k : Int) - 1) = (k : Int) - 1 := IntWalk.i64_in _ (by omega)
                  have i4 : (0 : Int) ≤ (k : Int) - 1 := by omega
                  have i5 : (k : Int) - 1 < (n : Int) := by omega
                  have i6 : ((k : Int) - 1).toNat = k - 1 := by omega
                  have e4 : ((k : Int) == 0) = false := by simp; omega
                  by_cases c5 : tv[k - 1] < tv[k]
                  · have e3 : decide (tv[k - 1] < tv[k]) = true := by simpa using c5
                    have Hn := Lib.hid (Hs.out true (by unfold varB; rw [Hg.out, Hg1.out, e1, e2, e3, Bool.or_true]; rfl))
                    rw [Bool.true_and] at Hn
                    clear Hs c1 c3 c5 hg1
                    go_wp2_with fail
                    go_quiet (fail)
                    go_wp2_with fail
                    go_roundg (n - (k + 1))
                    case measure => omega
                    case rel => exact ⟨k + 1, _, _, by omega, rfl, by go_num, rfl, Hn, rfl⟩
                  · have e3 : decide (tv[k - 1] < tv[k]) = false := by simpa using c5
                    have Hn := Lib.hid (Hs.out false (by unfold varB; rw [Hg.out, Hg1.out, e1, e2, e3, decide_eq_false c4]; rfl))
                    rw [Bool.true_and] at Hn
                    clear Hs c1 c3 c5 hg1
                    go_wp2_with fail
                    go_quiet (fail)
                    go_wp2_with fail
                    go_roundg (n - (k + 1))
                    case measure => omega
                    case rel => exact ⟨k + 1, _, _, by omega, rfl, by go_num, rfl, Hn, rfl⟩
              · have e2 : decide (tv[k] < 1048576) = false := by simpa using c3
                have Hn := Lib.hid (Hs.out false (by unfold varB; rw [Hg.out, e1, e2]; rfl))
                rw [Bool.true_and] at Hn
                clear Hs c1 c3
                go_wp2_with fail
                go_quiet (fail)
                go_wp2_with fail
                go_roundg (n - (k + 1))
                case measure => omega
                case rel => exact ⟨k + 1, _, _, by omega, rfl, by go_num, rfl, Hn, rfl⟩
            · have e1 : decide (0 ≤ tv[k]) = false := by simpa using c1
              have Hn := Lib.hid (Hs.out false (by unfold varB; rw [Hg.out, e1]; rfl))
              rw [Bool.true_and] at Hn
              clear Hs c1
              go_wp2_with fail
              go_quiet (fail)
              go_wp2_with fail
              go_roundg (n - (k + 1))
              case measure => omega
              case rel => exact ⟨k + 1, _, _, by omega, rfl, by go_num, rfl, Hn, rfl⟩
        · have HF : Hid (b = mayB ⟨false, tc, tv⟩) := by
            show _ = _
            have : k = tv.length := by have := Hl.out; omega
            rw [mayB_false, H0'.out, Bool.true_and, ← this, Hb.out]
          go_wp2_with fail
          go_ret
          exact ⟨ret_bool HF.out, below_drewN_t hbel _⟩
    ·
      go_enter Try.func29, Try.ntmps29
      go_wp2_with fail
      generalize w.alloc (Obj.cells #[.bool false, .int .u8 tc, .slice A n c] 37) = W at hbel hr1 hself ⊢
      have c2 : W.cell? ⟨w.heap.size, 2, none⟩ = some (.slice A n c) := hself.cell 2
      have Hr := Lib.hid hr1
      clear hr1 hself
      clear d1
      go_loopg [3, 4] n (fun g o i wr => ∃ (k q : Nat) (b : Bool), k ≤ n ∧ g = n - k ∧ i = .int .i64 k ∧ o = .bool b ∧ Hid (varsB tv k = b) ∧ W.drewN q = wr)
      case atStart => exact ⟨0, 0, true, Nat.zero_le _, rfl, rfl, rfl, Lib.hid rfl, rfl⟩
      case round =>
        obtain ⟨k, q, b, hk, rfl, rfl, rfl, Hb, rfl⟩ := hrel
        by_cases hlk : k < n
        · have hk' : k < tv.length := by rw [Hl.out]; exact hlk
          have hg : tv.getD k 0 = tv[k] := by simp [List.getD, hk']
          have Hs : Hid (∀ x, varB tv k = x → varsB tv (k + 1) = (b && x)) := by
            show ∀ x, _
            intro x hx
            rw [← hx, ← Hb.out]
            rfl
          cases b
          · have Hn := Lib.hid (Hs.out _ rfl)
            rw [Bool.false_and] at Hn
            clear Hs hg
            go_wp2_with fail
            go_quiet (fail)
            go_wp2_with fail
            go_roundg (n - (k + 1))
            case measure => omega
            case rel => exact ⟨k + 1, _, _, by omega, rfl, by go_num, rfl, Hn, rfl⟩
          · obtain ⟨bb, off, rfl, hb, hcell⟩ := Hr.out.at_ (by omega)
            have hc1 := hcell k hk'
            have i1 : (0 : Int) ≤ (k : Int) := by omega
            have i2 : (k : Int) < (n : Int) := by omega
            have Hg := Lib.hid hg
            have Hcell := Lib.hid hcell
            clear hg hcell
            by_cases c1 : 0 ≤ tv[k]
            · have e1 : decide (0 ≤ tv[k]) = true := by simpa using c1
              by_cases c3 : tv[k] < 1048576
              · have e2 : decide (tv[k] < 1048576) = true := by simpa using c3
                by_cases c4 : k = 0
                · subst c4
                  have hc0 : W.cell? ⟨bb, off, none⟩ = some (.int .i64 (tv[0]'hk')) := hc1
                  have Hn := Lib.hid (Hs.out true (by unfold varB; rw [Hg.out, e1, e2]; rfl))
                  rw [Bool.true_and] at Hn
                  clear Hs c1 c3
                  go_wp2_with fail
                  go_quiet (fail)
                  go_wp2_with fail
                  go_roundg (n - (0 + 1))
                  case measure => omega
                  case rel => exact ⟨0 + 1, _, _, by omega, rfl, by go_num, rfl, Hn, rfl⟩
                · have hk1 : k - 1 < tv.length := by omega
                  have hg1 : tv.getD (k - 1) 0 = tv[k - 1] := by simp [List.getD, hk1]
                  have Hg1 := Lib.hid hg1
                  have hc2 : W.cell? ⟨bb, off + (k - 1), none⟩ = some (.int .i64 (tv[k - 1]'hk1)) := Hcell.out (k - 1) hk1
                  have i3 : IntKind.i64.wrap ((k : Int) - 1) = (k : Int) - 1 := IntWalk.i64_in _ (by omega)
                  have i4 : (0 : Int) ≤ (k : Int) - 1 := by omega
                  have i5 : (k : Int) - 1 < (n : Int) := by omega
                  have i6 : ((k : Int) - 1).toNat = k - 1 := by omega
                  have e4 : ((k : Int) == 0) = false := by simp; omega
                  by_cases c5 : tv[k - 1] < tv[k]
                  · have e3 : decide (tv[k - 1] < tv[k]) = true := by simpa using c5
                    have Hn := Lib.hid (Hs.out true (by unfold varB; rw [Hg.out, Hg1.out, e1, e2, e3, Bool.or_true]; rfl))
                    rw [Bool.true_and] at Hn
                    clear Hs c1 c3 c5 hg1
                    go_wp2_with fail
                    go_quiet (fail)
                    go_wp2_with fail
                    go_roundg (n - (k + 1))
                    case measure => omega
                    case rel => exact ⟨k + 1, _, _, by omega, rfl, by go_num, rfl, Hn, rfl⟩
                  · have e3 : decide (tv[k - 1] < tv[k]) = false := by simpa using c5
                    have Hn := Lib.hid (Hs.out false (by unfold varB; rw [Hg.out, Hg1.out, e1, e2, e3, decide_eq_false c4]; rfl))
                    rw [Bool.true_and] at Hn
                    clear Hs c1 c3 c5 hg1
                    go_wp2_with fail
                    go_quiet (fail)
                    go_wp2_with fail
                    go_roundg (n - (k + 1))
                    case measure => omega
                    case rel => exact ⟨k + 1, _, _, by omega, rfl, by go_num, rfl, Hn, rfl⟩
              · have e2 : decide (tv[k] < 1048576) = false := by simpa using c3
                have Hn := Lib.hid (Hs.out false (by unfold varB; rw [Hg.out, e1, e2]; rfl))
                rw [Bool.true_and] at Hn
                clear Hs c1 c3
                go_wp2_with fail
                go_quiet (fail)
                go_wp2_with fail
                go_roundg (n - (k + 1))
                case measure => omega
                case rel => exact ⟨k + 1, _, _, by omega, rfl, by go_num, rfl, Hn, rfl⟩
            · have e1 : decide (0 ≤ tv[k]) = false := by simpa using c1
              have Hn := Lib.hid (Hs.out false (by unfold varB; rw [Hg.out, e1]; rfl))
              rw [Bool.true_and] at Hn
              clear Hs c1
              go_wp2_with fail
              go_quiet (fail)
              go_wp2_with fail
              go_roundg (n - (k + 1))
              case measure => omega
              case rel => exact ⟨k + 1, _, _, by omega, rfl, by go_num, rfl, Hn, rfl⟩
        · have HF : Hid (b = mayB ⟨false, tc, tv⟩) := by
            show _ = _
            have : k = tv.length := by have := Hl.out; omega
            rw [mayB_false, H0'.out, Bool.true_and, ← this, Hb.out]
          go_wp2_with fail
          go_ret
          exact ⟨ret_bool HF.out, below_drewN_t hbel _⟩
    ·
      go_enter Try.func29, Try.ntmps29
      go_wp2_with fail
      generalize w.alloc (Obj.cells #[.bool false, .int .u8 tc, .slice A n c] 37) = W at hbel hr1 hself ⊢
      have c2 : W.cell? ⟨w.heap.size, 2, none⟩ = some (.slice A n c) := hself.cell 2
      have Hr := Lib.hid hr1
      clear hr1 hself
      clear d1
      go_loopg [3, 4] n (fun g o i wr => ∃ k q : Nat, k ≤ n ∧ g = n - k ∧ i = .int .i64 k ∧ o = .bool false ∧ W.drewN q = wr)
      case atStart => exact ⟨0, 0, Nat.zero_le _, rfl, rfl, rfl, rfl⟩
      case round =>
        obtain ⟨k, q, hk, rfl, rfl, rfl, rfl⟩ := hrel
        by_cases hlk : k < n
        · go_wp2_with fail
          go_quiet (fail)
          go_wp2_with fail
          go_roundg (n - (k + 1))
          case measure => omega
          case rel => exact ⟨k + 1, _, by omega, rfl, by go_num, rfl, rfl⟩
        · have HF : Hid (false = mayB ⟨false, tc, tv⟩) := by show _ = _; rw [mayB_false, H0'.out, Bool.false_and]
          go_wp2_with fail
          go_ret
          exact ⟨ret_bool HF.out, below_drewN_t hbel _⟩
  · have hE : Hid ((tc == 0 && decide (n = 0)) = mayB ⟨true, tc, tv⟩) := by
      show _ = _
      simp [mayB, hempty]
    clear hempty
    by_cases h : tc = 0
    · have d : (tc == 0) = true := by simp [h]
      clear h
      go_enter Try.func29, Try.ntmps29
      go_wp2_with fail
      go_ret
      exact ⟨ret_bool (by rw [← hE.out, d, Bool.true_and, Bool.eq_iff_iff]; simp), hbel⟩
    · have d : (tc == 0) = false := by simp [h]
      clear h
      go_enter Try.func29, Try.ntmps29
      go_wp2_with fail
      go_ret
      exact ⟨ret_bool (by rw [← hE.out, d]; simp), hbel⟩

end Go.Proofs.Ytimlbpjdgnapoaa

