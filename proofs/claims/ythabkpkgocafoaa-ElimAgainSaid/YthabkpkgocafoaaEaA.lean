/- Texts of this claim, laid one behind the other: IneqDef, RefI, IneqA, IneqB, IneqC, IneqE. -/
import Derived.Test.YthabkpkgocafoaaTermDef
import Derived.Test.YthabkpkgocafoaaMem
import Derived.Test.YthabkpkgocafoaaTermIs
import Derived.Deep.RegionWith
import Derived.IntWalk
/- What package ineq computes, as plain functions; a slice of inequalities in memory. -/
namespace Go.Proofs.Ythabkpkgocafoaa
set_option linter.unusedVariables false
set_option linter.unusedSimpArgs false
open Go.RowKit

/-- an inequality: l's variable and multiplicity, the bound's multiplicity and variable -/
structure IneqD where
  lv : Int
  lc : Int
  c : Int
  r : Int
deriving DecidableEq

def mayQ (lv lc c r : Int) : Bool := isB lc lv && decide (1 ≤ c) && decide (c ≤ 3) && decide (-1 ≤ r) && decide (r < 1048576)
def mayQE (lv lc c r : Int) : Int := if mayQ lv lc c r then 0 else 2
theorem mayQE_yes {lv lc c r : Int} (h : mayQ lv lc c r = true) : mayQE lv lc c r = 0 := by simp [mayQE, h]
theorem mayQE_no {lv lc c r : Int} (h : mayQ lv lc c r = false) : mayQE lv lc c r = 2 := by simp [mayQE, h]
/-- a variable's multiplicity, by the program: what has no place is 1 -/
def atK (asg : List Int) (v : Int) : Int := if okV asg v then atV asg v else 1
def leftQ (asg : List Int) (lv lc : Int) : Int := if lc = 0 then atK asg lv else lc
def rightQ (asg : List Int) (c r : Int) : Int := if 0 ≤ r then max c (atK asg r) else c
def holdsQ (asg : List Int) (lv lc c r : Int) : Bool := decide (leftQ asg lv lc ≤ rightQ asg c r)
def badQ (asg : List Int) (lv lc r : Int) : Bool := (lc == 0 && !okV asg lv) || (decide (0 ≤ r) && !okV asg r)

/-- an inequality in four cells -/
def IneqAt (w : World) (b off : Nat) (x : IneqD) : Prop :=
  w.cell? ⟨b, off, none⟩ = some (.int .i64 x.lv) ∧ w.cell? ⟨b, off + 1, none⟩ = some (.int .u8 x.lc) ∧ w.cell? ⟨b, off + 2, none⟩ = some (.int .u8 x.c) ∧ w.cell? ⟨b, off + 3, none⟩ = some (.int .i64 x.r)
/-- a slice of inequalities -/
def IneqsV (w : World) (B : Nat) (A : Option Addr) (n c : Nat) (xs : List IneqD) : Prop :=
  xs.length = n ∧ n ≤ c ∧ c ≤ maxLen ∧ (0 < n → ∃ b off, A = some ⟨b, off, none⟩ ∧ b < B ∧ ∀ i (h : i < xs.length), IneqAt w b (off + i * 4) xs[i])
section
variable {w w' : World} {B B' : Nat} {A : Option Addr} {n c : Nat} {xs : List IneqD}
theorem IneqAt.keep {b off : Nat} {x : IneqD} (h : IneqAt w b off x) (hb : b < B) (hk : ∀ p : Addr, p.block < B → w'.cell? p = w.cell? p) : IneqAt w' b off x := by
  obtain ⟨e1, e2, e3, e4⟩ := h
  exact ⟨(hk _ hb).trans e1, (hk _ hb).trans e2, (hk _ hb).trans e3, (hk _ hb).trans e4⟩
theorem IneqsV.keep (h : IneqsV w B A n c xs) (hk : ∀ p : Addr, p.block < B → w'.cell? p = w.cell? p) : IneqsV w' B A n c xs := by
  obtain ⟨h1, h2, h3, h4⟩ := h
  refine ⟨h1, h2, h3, fun hn => ?_⟩
  obtain ⟨b, off, e, hb, hc⟩ := h4 hn
  exact ⟨b, off, e, hb, fun i hi => (hc i hi).keep hb hk⟩
theorem IneqsV.more (h : IneqsV w B A n c xs) (hB : B ≤ B') : IneqsV w B' A n c xs := by
  obtain ⟨h1, h2, h3, h4⟩ := h
  refine ⟨h1, h2, h3, fun hn => ?_⟩
  obtain ⟨b, off, e, hb, hc⟩ := h4 hn
  exact ⟨b, off, e, by omega, hc⟩
theorem IneqsV.below (h : IneqsV w B A n c xs) (hb : Below B w w') : IneqsV w' B A n c xs := h.keep fun _ hp => hb.cell hp
theorem IneqsV.nil : IneqsV w B none 0 0 [] := ⟨rfl, Nat.le_refl _, Nat.zero_le _, fun h => absurd h (by omega)⟩
theorem IneqsV.len (h : IneqsV w B A n c xs) : xs.length = n := h.1
theorem IneqsV.at_ (h : IneqsV w B A n c xs) (hn : 0 < n) : ∃ b off, A = some ⟨b, off, none⟩ ∧ b < B ∧ ∀ i (h : i < xs.length), IneqAt w b (off + i * 4) xs[i] := h.2.2.2 hn
end

/-- the memory of a looker: block g -/
def Looks (w : World) (g : Nat) (asg : List Int) (bad : Bool) : Prop := ∃ A n c, Blk w g 83 #[.slice A n c, .bool bad] ∧ RdI .u8 w g A n c asg

theorem is_at (c v : Int) (x : Int) (hx : isE c v = x) (w : World) :
    Calls Try.prog 68 #[.agg #[.int .i64 v, .int .u8 c]] w fun e w' => e = .returned (.int .i64 x) ∧ Below w.heap.size w w' := by
  rw [← hx]; exact is_any c v w

end Go.Proofs.Ythabkpkgocafoaa

/- The contract of usufructref02.Is (door seat only). -/
namespace Go.Proofs.Ythabkpkgocafoaa
set_option linter.unusedVariables false
set_option linter.unusedSimpArgs false
open Go.RowKit

theorem refIs_any (c v : Int) (w : World) :
    Calls Try.prog 67 #[.agg #[.int .i64 v, .int .u8 c]] w fun e w' => e = .returned (.bool (isB c v)) ∧ Below w.heap.size w w' := by
  have hfin : ∀ b, isB c v = b → Hid (b = isB c v) := fun b h => Lib.hid h.symm
  by_cases h0 : c = 0 ∧ 0 ≤ v ∧ v < 1048576
  · obtain ⟨rfl, ha, hb⟩ := h0
    have H := hfin true (by simp [isB, ha, hb])
    clear hfin
    go_enter Try.func67, Try.ntmps67
    go_wp2_with fail
    go_ret
    exact ⟨ret_bool H.out, (Below.refl _ _).alloc (Nat.le_refl _) _⟩
  · have hcase : (c == 0) = false ∨ (c == 0) = true ∧ (¬ (0 ≤ v) ∨ 0 ≤ v ∧ ¬ (v < 1048576)) := by
      by_cases hc : c = 0
      · refine .inr ⟨by simp [hc], ?_⟩
        by_cases hv : 0 ≤ v
        · exact .inr ⟨hv, fun h => h0 ⟨hc, hv, h⟩⟩
        · exact .inl hv
      · exact .inl (by simp [hc])
    have hx : (c == 0 && decide (0 ≤ v) && decide (v < 1048576)) = false := by
      rw [Bool.eq_false_iff]
      intro h
      simp only [Bool.and_eq_true, beq_iff_eq, decide_eq_true_eq] at h
      exact h0 ⟨h.1.1, h.1.2, h.2⟩
    clear h0
    have hcase2 : ¬ (1 ≤ c) ∨ 1 ≤ c ∧ (¬ (c ≤ 3) ∨ c ≤ 3 ∧ ((v == 0) = false ∨ (v == 0) = true)) := by
      by_cases h1 : 1 ≤ c
      · by_cases h3 : c ≤ 3
        · cases h : v == 0
          · exact .inr ⟨h1, .inr ⟨h3, .inl rfl⟩⟩
          · exact .inr ⟨h1, .inr ⟨h3, .inr rfl⟩⟩
        · exact .inr ⟨h1, .inl h3⟩
      · exact .inl h1
    obtain ⟨y, hy⟩ : ∃ y, isB c v = y := ⟨_, rfl⟩
    have H := hfin y hy
    unfold isB oneB at hy
    rw [hx, Bool.false_or] at hy
    clear hfin hx
    rcases hcase2 with h1 | ⟨h1, h3 | ⟨h3, h4 | h4⟩⟩
    all_goals
      first | rw [decide_eq_false h1] at hy | rw [decide_eq_true h1, decide_eq_false h3] at hy | rw [decide_eq_true h1, decide_eq_true h3, h4] at hy
      simp only [Bool.false_and, Bool.true_and, Bool.and_false, Bool.and_true] at hy
      subst hy
      rcases hcase with h | ⟨h, h | ⟨h, h'⟩⟩
      all_goals
        go_enter Try.func67, Try.ntmps67
        go_wp2_with fail
        go_ret
        exact ⟨ret_bool H.out, (Below.refl _ _).alloc (Nat.le_refl _) _⟩

end Go.Proofs.Ythabkpkgocafoaa

/- Contracts of ineq.May, usufructref03.May. -/
namespace Go.Proofs.Ythabkpkgocafoaa
set_option linter.unusedVariables false
set_option linter.unusedSimpArgs false
open Go.RowKit

theorem refIs_at (c v : Int) (x : Bool) (hx : isB c v = x) (w : World) :
    Calls Try.prog 67 #[.agg #[.int .i64 v, .int .u8 c]] w fun e w' => e = .returned (.bool x) ∧ Below w.heap.size w w' := by
  rw [← hx]; exact refIs_any c v w


theorem ineqMay_any (lv lc c r : Int) (w : World) :
    Calls Try.prog 49 #[.agg #[.int .i64 lv, .int .u8 lc, .int .u8 c, .int .i64 r]] w fun e w' => e = .returned (.int .i64 (mayQE lv lc c r)) ∧ Below w.heap.size w w' := by
  cases hi : isB lc lv
  · have H : Hid (2 = mayQE lv lc c r) := by show _ = _; rw [mayQE_no]; simp [mayQ, hi]
    have Hi := Lib.hid (isE_no hi)
    clear hi
    go_enter Try.func49, Try.ntmps49
    go_wp2_with fail
    refine (is_at lc lv 2 Hi.out _).mono ?_; rintro e w1 ⟨rfl, hb1⟩
    have c2 : w1.cell? ⟨w.heap.size, 2, none⟩ = some (.int .u8 c) := (hb1.cell (p := ⟨w.heap.size, 2, none⟩) (by simp)).trans ((blk_new w #[.int .i64 lv, .int .u8 lc, .int .u8 c, .int .i64 r] 31).cell 2)
    have c3 : w1.cell? ⟨w.heap.size, 3, none⟩ = some (.int .i64 r) := (hb1.cell (p := ⟨w.heap.size, 3, none⟩) (by simp)).trans ((blk_new w #[.int .i64 lv, .int .u8 lc, .int .u8 c, .int .i64 r] 31).cell 3)
    go_wp2_with fail
    go_ret
    exact ⟨by rw [H.out]; rfl, (below_box _).trans (hb1.mono (by simp))⟩
  · have Hi := Lib.hid (isE_yes hi)
    have Hi' := Lib.hid hi
    clear hi
    by_cases h1 : 1 ≤ c
    · by_cases h2 : c ≤ 3
      · by_cases h3 : -1 ≤ r
        · by_cases h4 : r < 1048576
          · have H : Hid (0 = mayQE lv lc c r) := by show _ = _; rw [mayQE_yes]; simp [mayQ, Hi'.out, h1, h2, h3, h4]
            go_enter Try.func49, Try.ntmps49
            go_wp2_with fail
            refine (is_at lc lv 0 Hi.out _).mono ?_; rintro e w1 ⟨rfl, hb1⟩
            have c2 : w1.cell? ⟨w.heap.size, 2, none⟩ = some (.int .u8 c) := (hb1.cell (p := ⟨w.heap.size, 2, none⟩) (by simp)).trans ((blk_new w #[.int .i64 lv, .int .u8 lc, .int .u8 c, .int .i64 r] 31).cell 2)
            have c3 : w1.cell? ⟨w.heap.size, 3, none⟩ = some (.int .i64 r) := (hb1.cell (p := ⟨w.heap.size, 3, none⟩) (by simp)).trans ((blk_new w #[.int .i64 lv, .int .u8 lc, .int .u8 c, .int .i64 r] 31).cell 3)
            go_wp2_with fail
            go_ret
            exact ⟨by rw [H.out]; rfl, (below_box _).trans (hb1.mono (by simp))⟩
          · have H : Hid (2 = mayQE lv lc c r) := by show _ = _; rw [mayQE_no]; simp [mayQ, h4]
            go_enter Try.func49, Try.ntmps49
            go_wp2_with fail
            refine (is_at lc lv 0 Hi.out _).mono ?_; rintro e w1 ⟨rfl, hb1⟩
            have c2 : w1.cell? ⟨w.heap.size, 2, none⟩ = some (.int .u8 c) := (hb1.cell (p := ⟨w.heap.size, 2, none⟩) (by simp)).trans ((blk_new w #[.int .i64 lv, .int .u8 lc, .int .u8 c, .int .i64 r] 31).cell 2)
            have c3 : w1.cell? ⟨w.heap.size, 3, none⟩ = some (.int .i64 r) := (hb1.cell (p := ⟨w.heap.size, 3, none⟩) (by simp)).trans ((blk_new w #[.int .i64 lv, .int .u8 lc, .int .u8 c, .int .i64 r] 31).cell 3)
            go_wp2_with fail
            go_ret
            exact ⟨by rw [H.out]; rfl, (below_box _).trans (hb1.mono (by simp))⟩
        · have H : Hid (2 = mayQE lv lc c r) := by show _ = _; rw [mayQE_no]; simp [mayQ, h3]
          go_enter Try.func49, Try.ntmps49
          go_wp2_with fail
          refine (is_at lc lv 0 Hi.out _).mono ?_; rintro e w1 ⟨rfl, hb1⟩
          have c2 : w1.cell? ⟨w.heap.size, 2, none⟩ = some (.int .u8 c) := (hb1.cell (p := ⟨w.heap.size, 2, none⟩) (by simp)).trans ((blk_new w #[.int .i64 lv, .int .u8 lc, .int .u8 c, .int .i64 r] 31).cell 2)
          have c3 : w1.cell? ⟨w.heap.size, 3, none⟩ = some (.int .i64 r) := (hb1.cell (p := ⟨w.heap.size, 3, none⟩) (by simp)).trans ((blk_new w #[.int .i64 lv, .int .u8 lc, .int .u8 c, .int .i64 r] 31).cell 3)
          go_wp2_with fail
          go_ret
          exact ⟨by rw [H.out]; rfl, (below_box _).trans (hb1.mono (by simp))⟩
      · have H : Hid (2 = mayQE lv lc c r) := by show _ = _; rw [mayQE_no]; simp [mayQ, h2]
        go_enter Try.func49, Try.ntmps49
        go_wp2_with fail
        refine (is_at lc lv 0 Hi.out _).mono ?_; rintro e w1 ⟨rfl, hb1⟩
        have c2 : w1.cell? ⟨w.heap.size, 2, none⟩ = some (.int .u8 c) := (hb1.cell (p := ⟨w.heap.size, 2, none⟩) (by simp)).trans ((blk_new w #[.int .i64 lv, .int .u8 lc, .int .u8 c, .int .i64 r] 31).cell 2)
        have c3 : w1.cell? ⟨w.heap.size, 3, none⟩ = some (.int .i64 r) := (hb1.cell (p := ⟨w.heap.size, 3, none⟩) (by simp)).trans ((blk_new w #[.int .i64 lv, .int .u8 lc, .int .u8 c, .int .i64 r] 31).cell 3)
        go_wp2_with fail
        go_ret
        exact ⟨by rw [H.out]; rfl, (below_box _).trans (hb1.mono (by simp))⟩
    · have H : Hid (2 = mayQE lv lc c r) := by show _ = _; rw [mayQE_no]; simp [mayQ, h1]
      go_enter Try.func49, Try.ntmps49
      go_wp2_with fail
      refine (is_at lc lv 0 Hi.out _).mono ?_; rintro e w1 ⟨rfl, hb1⟩
      have c2 : w1.cell? ⟨w.heap.size, 2, none⟩ = some (.int .u8 c) := (hb1.cell (p := ⟨w.heap.size, 2, none⟩) (by simp)).trans ((blk_new w #[.int .i64 lv, .int .u8 lc, .int .u8 c, .int .i64 r] 31).cell 2)
      have c3 : w1.cell? ⟨w.heap.size, 3, none⟩ = some (.int .i64 r) := (hb1.cell (p := ⟨w.heap.size, 3, none⟩) (by simp)).trans ((blk_new w #[.int .i64 lv, .int .u8 lc, .int .u8 c, .int .i64 r] 31).cell 3)
      go_wp2_with fail
      go_ret
      exact ⟨by rw [H.out]; rfl, (below_box _).trans (hb1.mono (by simp))⟩

theorem refMayQ_any (lv lc c r : Int) (w : World) :
    Calls Try.prog 47 #[.agg #[.int .i64 lv, .int .u8 lc, .int .u8 c, .int .i64 r]] w fun e w' => e = .returned (.bool (mayQ lv lc c r)) ∧ Below w.heap.size w w' := by
  cases hi : isB lc lv
  · have H : Hid (false = mayQ lv lc c r) := by show _ = _; simp [mayQ, hi]
    have Hi := Lib.hid hi
    clear hi
    go_enter Try.func47, Try.ntmps47
    go_wp2_with fail
    refine (refIs_at lc lv false Hi.out _).mono ?_; rintro e w1 ⟨rfl, hb1⟩
    have c2 : w1.cell? ⟨w.heap.size, 2, none⟩ = some (.int .u8 c) := (hb1.cell (p := ⟨w.heap.size, 2, none⟩) (by simp)).trans ((blk_new w #[.int .i64 lv, .int .u8 lc, .int .u8 c, .int .i64 r] 31).cell 2)
    have c3 : w1.cell? ⟨w.heap.size, 3, none⟩ = some (.int .i64 r) := (hb1.cell (p := ⟨w.heap.size, 3, none⟩) (by simp)).trans ((blk_new w #[.int .i64 lv, .int .u8 lc, .int .u8 c, .int .i64 r] 31).cell 3)
    go_wp2_with fail
    go_ret
    exact ⟨by first | (rw [H.out]; rfl) | (rw [← H.out, show decide (r < 1048576) = false from decide_eq_false (by omega)]; rfl), (below_box _).trans (hb1.mono (by simp))⟩
  · have Hi := Lib.hid hi
    have Hi' := Lib.hid hi
    clear hi
    by_cases h1 : 1 ≤ c
    · by_cases h2 : c ≤ 3
      · by_cases h3 : -1 ≤ r
        · by_cases h4 : r < 1048576
          · have H : Hid (true = mayQ lv lc c r) := by show _ = _; simp [mayQ, Hi'.out, h1, h2, h3, h4]
            go_enter Try.func47, Try.ntmps47
            go_wp2_with fail
            refine (refIs_at lc lv true Hi.out _).mono ?_; rintro e w1 ⟨rfl, hb1⟩
            have c2 : w1.cell? ⟨w.heap.size, 2, none⟩ = some (.int .u8 c) := (hb1.cell (p := ⟨w.heap.size, 2, none⟩) (by simp)).trans ((blk_new w #[.int .i64 lv, .int .u8 lc, .int .u8 c, .int .i64 r] 31).cell 2)
            have c3 : w1.cell? ⟨w.heap.size, 3, none⟩ = some (.int .i64 r) := (hb1.cell (p := ⟨w.heap.size, 3, none⟩) (by simp)).trans ((blk_new w #[.int .i64 lv, .int .u8 lc, .int .u8 c, .int .i64 r] 31).cell 3)
            go_wp2_with fail
            go_ret
            exact ⟨by first | (rw [H.out]; rfl) | (rw [← H.out, show decide (r < 1048576) = false from decide_eq_false (by omega)]; rfl), (below_box _).trans (hb1.mono (by simp))⟩
          · have H : Hid (false = mayQ lv lc c r) := by show _ = _; simp [mayQ, h4]
            go_enter Try.func47, Try.ntmps47
            go_wp2_with fail
            refine (refIs_at lc lv true Hi.out _).mono ?_; rintro e w1 ⟨rfl, hb1⟩
            have c2 : w1.cell? ⟨w.heap.size, 2, none⟩ = some (.int .u8 c) := (hb1.cell (p := ⟨w.heap.size, 2, none⟩) (by simp)).trans ((blk_new w #[.int .i64 lv, .int .u8 lc, .int .u8 c, .int .i64 r] 31).cell 2)
            have c3 : w1.cell? ⟨w.heap.size, 3, none⟩ = some (.int .i64 r) := (hb1.cell (p := ⟨w.heap.size, 3, none⟩) (by simp)).trans ((blk_new w #[.int .i64 lv, .int .u8 lc, .int .u8 c, .int .i64 r] 31).cell 3)
            go_wp2_with fail
            go_ret
            exact ⟨by first | (rw [H.out]; rfl) | (rw [← H.out, show decide (r < 1048576) = false from decide_eq_false (by omega)]; rfl), (below_box _).trans (hb1.mono (by simp))⟩
        · have H : Hid (false = mayQ lv lc c r) := by show _ = _; simp [mayQ, h3]
          go_enter Try.func47, Try.ntmps47
          go_wp2_with fail
          refine (refIs_at lc lv true Hi.out _).mono ?_; rintro e w1 ⟨rfl, hb1⟩
          have c2 : w1.cell? ⟨w.heap.size, 2, none⟩ = some (.int .u8 c) := (hb1.cell (p := ⟨w.heap.size, 2, none⟩) (by simp)).trans ((blk_new w #[.int .i64 lv, .int .u8 lc, .int .u8 c, .int .i64 r] 31).cell 2)
          have c3 : w1.cell? ⟨w.heap.size, 3, none⟩ = some (.int .i64 r) := (hb1.cell (p := ⟨w.heap.size, 3, none⟩) (by simp)).trans ((blk_new w #[.int .i64 lv, .int .u8 lc, .int .u8 c, .int .i64 r] 31).cell 3)
          go_wp2_with fail
          go_ret
          exact ⟨by first | (rw [H.out]; rfl) | (rw [← H.out, show decide (r < 1048576) = false from decide_eq_false (by omega)]; rfl), (below_box _).trans (hb1.mono (by simp))⟩
      · have H : Hid (false = mayQ lv lc c r) := by show _ = _; simp [mayQ, h2]
        go_enter Try.func47, Try.ntmps47
        go_wp2_with fail
        refine (refIs_at lc lv true Hi.out _).mono ?_; rintro e w1 ⟨rfl, hb1⟩
        have c2 : w1.cell? ⟨w.heap.size, 2, none⟩ = some (.int .u8 c) := (hb1.cell (p := ⟨w.heap.size, 2, none⟩) (by simp)).trans ((blk_new w #[.int .i64 lv, .int .u8 lc, .int .u8 c, .int .i64 r] 31).cell 2)
        have c3 : w1.cell? ⟨w.heap.size, 3, none⟩ = some (.int .i64 r) := (hb1.cell (p := ⟨w.heap.size, 3, none⟩) (by simp)).trans ((blk_new w #[.int .i64 lv, .int .u8 lc, .int .u8 c, .int .i64 r] 31).cell 3)
        go_wp2_with fail
        go_ret
        exact ⟨by first | (rw [H.out]; rfl) | (rw [← H.out, show decide (r < 1048576) = false from decide_eq_false (by omega)]; rfl), (below_box _).trans (hb1.mono (by simp))⟩
    · have H : Hid (false = mayQ lv lc c r) := by show _ = _; simp [mayQ, h1]
      go_enter Try.func47, Try.ntmps47
      go_wp2_with fail
      refine (refIs_at lc lv true Hi.out _).mono ?_; rintro e w1 ⟨rfl, hb1⟩
      have c2 : w1.cell? ⟨w.heap.size, 2, none⟩ = some (.int .u8 c) := (hb1.cell (p := ⟨w.heap.size, 2, none⟩) (by simp)).trans ((blk_new w #[.int .i64 lv, .int .u8 lc, .int .u8 c, .int .i64 r] 31).cell 2)
      have c3 : w1.cell? ⟨w.heap.size, 3, none⟩ = some (.int .i64 r) := (hb1.cell (p := ⟨w.heap.size, 3, none⟩) (by simp)).trans ((blk_new w #[.int .i64 lv, .int .u8 lc, .int .u8 c, .int .i64 r] 31).cell 3)
      go_wp2_with fail
      go_ret
      exact ⟨by first | (rw [H.out]; rfl) | (rw [← H.out, show decide (r < 1048576) = false from decide_eq_false (by omega)]; rfl), (below_box _).trans (hb1.mono (by simp))⟩



end Go.Proofs.Ythabkpkgocafoaa

/- Contracts of ineq's looker: at, holds; of usufructref03.One. -/
namespace Go.Proofs.Ythabkpkgocafoaa
set_option linter.unusedVariables false
set_option linter.unusedSimpArgs false
open Go.RowKit


/-- the world behind a look -/
def lookW (w : World) (g : Nat) (asg : List Int) (v : Int) : World := if okV asg v then w else w.setCell ⟨g, 1, none⟩ (.bool true)
section
variable {w : World} {g s : Nat} {asg : List Int} {v : Int} {t : TypeId} {cs : Array Value} {bad : Bool}
theorem lookW_size : (lookW w g asg v).heap.size = w.heap.size := by unfold lookW; split <;> simp
theorem lookW_below : Below g w (lookW w g asg v) := by
  unfold lookW; split
  · exact Below.refl _ _
  · exact (Below.refl g w).setCell (p := ⟨g, 1, none⟩) (Nat.le_refl _) _
theorem Blk.look (h : Blk w s t cs) (hs : g ≠ s) : Blk (lookW w g asg v) s t cs := by
  unfold lookW; split
  · exact h
  · exact h.other hs 1 _
theorem Looks.store (h : Looks w g asg bad) (hs : g < s) (i : Nat) (u : Value) : Looks (w.setCell ⟨s, i, none⟩ u) g asg bad := by
  obtain ⟨A, n, c, h1, h2⟩ := h
  exact ⟨A, n, c, h1.other (by omega) i u, h2.below ((Below.refl g w).setCell (p := ⟨s, i, none⟩) (by simp; omega) _)⟩
theorem Looks.below {w' : World} {B : Nat} (h : Looks w g asg bad) (hb : Below B w w') (hg : g < B) : Looks w' g asg bad := by
  obtain ⟨A, n, c, h1, h2⟩ := h
  exact ⟨A, n, c, h1.below hb hg, h2.below (hb.mono (by omega))⟩
end

theorem lookerAt_any (v : Int) (g : Nat) (asg : List Int) (bad : Bool) (w : World) (h : Looks w g asg bad) (hv : 0 ≤ v) :
    Calls Try.prog 69 #[.pointer (some ⟨g, 0, none⟩), .int .i64 v] w fun e w' => e = .returned (.int .u8 (atK asg v)) ∧ Looks w' g asg (bad || !okV asg v) ∧ w' = lookW w g asg v := by
  obtain ⟨m, rfl⟩ : ∃ m : Nat, v = (m : Int) := ⟨v.toNat, (Int.toNat_of_nonneg hv).symm⟩
  clear hv
  obtain ⟨A, n, c, hk, ha⟩ := h
  have hla := ha.len
  have hn63 : n ≤ 9223372036854775807 := Nat.le_trans ha.2.1 ha.2.2
  have x0 : w.cell? ⟨g, 0, none⟩ = some (.slice A n c) := hk.cell 0
  have f1 : w.frozen? ⟨g, 1, none⟩ = false := hk.frozen 1
  have x1 : w.cell? ⟨g, 1, none⟩ = some (.bool bad) := hk.cell 1
  have hgood : okV asg m = true → Hid (Looks w g asg (bad || !okV asg m)) := fun h => Lib.hid (by rw [h]; simpa using ⟨A, n, c, hk, ha⟩)
  have hbelow : Below g w (w.setCell ⟨g, 1, none⟩ (.bool true)) := (Below.refl g w).setCell (p := ⟨g, 1, none⟩) (Nat.le_refl _) _
  have hbad : okV asg m = false → Hid (Looks (w.setCell ⟨g, 1, none⟩ (.bool true)) g asg (bad || !okV asg m)) := fun h => Lib.hid (by rw [h]; simpa using ⟨A, n, c, hk.set_ 1 _, ha.below hbelow⟩)
  have hB := Lib.hid hbelow
  clear hbelow
  by_cases hlt : m < n
  · obtain ⟨b, off, rfl, hb, hcell⟩ := ha.at_ (by omega)
    have hm' : m < asg.length := by rw [hla]; exact hlt
    have hc := hcell m hm'
    have hav : atV asg m = asg[m] := by simp [atV, List.getD, hm']
    have hml : ((m : Int) < asg.length) := by omega
    generalize asg[m] = y at hc hav
    clear hcell ha hla hk
    by_cases h1 : 1 ≤ y
    · by_cases h2 : y ≤ 3
      · have ho : okV asg m = true := by simp [okV, oneB, hav, hml, h1, h2]
        have H : Hid (y = atK asg m) := by show _ = _; simp [atK, ho, hav]
        have hL := hgood ho
        have hW : Hid (w = lookW w g asg m) := Lib.hid (by simp [lookW, ho])
        clear hav hml hm' ho hgood hbad
        go_enter Try.func69, Try.ntmps69
        go_wp2_with fail
        go_ret
        exact ⟨by rw [← H.out]; rfl, hL.out, hW.out⟩
      · have ho : okV asg m = false := by simp [okV, oneB, hav, hml, h1, h2]
        have H : Hid (1 = atK asg m) := by show _ = _; simp [atK, ho]
        have hL := hbad ho
        have hW : Hid (w.setCell ⟨g, 1, none⟩ (.bool true) = lookW w g asg m) := Lib.hid (by simp [lookW, ho])
        clear hav hml hm' ho hgood hbad
        go_enter Try.func69, Try.ntmps69
        go_wp2_with fail
        go_ret
        exact ⟨by rw [← H.out]; rfl, hL.out, hW.out⟩
    · have ho : okV asg m = false := by simp [okV, oneB, hav, hml, h1]
      have H : Hid (1 = atK asg m) := by show _ = _; simp [atK, ho]
      have hL := hbad ho
      have hW : Hid (w.setCell ⟨g, 1, none⟩ (.bool true) = lookW w g asg m) := Lib.hid (by simp [lookW, ho])
      clear hav hml hm' ho hgood hbad
      go_enter Try.func69, Try.ntmps69
      go_wp2_with fail
      go_ret
      exact ⟨by rw [← H.out]; rfl, hL.out, hW.out⟩
  · have hml : ¬ ((m : Int) < asg.length) := by omega
    have ho : okV asg m = false := by simp [okV, hml]
    have H : Hid (1 = atK asg m) := by show _ = _; simp [atK, ho]
    have hL := hbad ho
    have hW : Hid (w.setCell ⟨g, 1, none⟩ (.bool true) = lookW w g asg m) := Lib.hid (by simp [lookW, ho])
    have hlt' : n ≤ m := by omega
    clear hml hla hlt ha hk ho hgood hbad
    go_enter Try.func69, Try.ntmps69
    go_wp2_with fail
    go_ret
    exact ⟨by rw [← H.out]; rfl, hL.out, hW.out⟩

theorem lookerAt_x (v : Int) (g : Nat) (asg : List Int) (bad : Bool) (w : World) (h : Looks w g asg bad) (hv : 0 ≤ v) (w0 : World) (sx ss : Nat) (tx ts : TypeId) (cx cs : Array Value) (hb : Below g w0 w) (hx : Blk w sx tx cx) (hs : Blk w ss ts cs) (hne : g ≠ sx) (hne' : g ≠ ss) :
    Calls Try.prog 69 #[.pointer (some ⟨g, 0, none⟩), .int .i64 v] w fun e w' => e = .returned (.int .u8 (atK asg v)) ∧ Looks w' g asg (bad || !okV asg v) ∧ Blk w' sx tx cx ∧ Blk w' ss ts cs ∧ Below g w0 w' := by
  refine (lookerAt_any v g asg bad w h hv).mono fun e w' ⟨h1, h2, h3⟩ => ⟨h1, h2, ?_, ?_, ?_⟩
  · rw [h3]; exact hx.look hne
  · rw [h3]; exact hs.look hne'
  · rw [h3]; exact hb.trans lookW_below


set_option maxHeartbeats 1000000 in
theorem lookerHolds_any (lv lc c r : Int) (g : Nat) (asg : List Int) (bad : Bool) (w : World) (h : Looks w g asg bad) (hg : g < w.heap.size) (hlv : lc = 0 → 0 ≤ lv) :
    Calls Try.prog 50 #[.pointer (some ⟨g, 0, none⟩), .agg #[.int .i64 lv, .int .u8 lc, .int .u8 c, .int .i64 r]] w fun e w' => e = .returned (.bool (holdsQ asg lv lc c r)) ∧ Looks w' g asg (bad || badQ asg lv lc r) ∧ Below g w w' := by
  have hmx := @run_max2 Try.prog
  have hz1 : (w.alloc (Obj.cells #[.int .i64 lv, .int .u8 lc, .int .u8 c, .int .i64 r] 31)).heap.size = w.heap.size + 1 := by simp
  have hb1 : Below w.heap.size w (w.alloc (Obj.cells #[.int .i64 lv, .int .u8 lc, .int .u8 c, .int .i64 r] 31)) := below_box _
  have hb2 : Below w.heap.size w ((w.alloc (Obj.cells #[.int .i64 lv, .int .u8 lc, .int .u8 c, .int .i64 r] 31)).alloc (Obj.cells #[.int .u8 lc, .int .u8 c] 57)) := hb1.trans ((below_box _).mono (by simp))
  have hx := (blk_new w #[.int .i64 lv, .int .u8 lc, .int .u8 c, .int .i64 r] 31).alloc (Obj.cells #[.int .u8 lc, .int .u8 c] 57)
  have hs := blk_new (w.alloc (Obj.cells #[.int .i64 lv, .int .u8 lc, .int .u8 c, .int .i64 r] 31)) #[.int .u8 lc, .int .u8 c] 57
  rw [hz1] at hs
  have hL := h.below hb2 hg
  have hne : g ≠ w.heap.size := by omega
  have hne' : g ≠ w.heap.size + 1 := by omega
  have hbel : Below g w ((w.alloc (Obj.cells #[.int .i64 lv, .int .u8 lc, .int .u8 c, .int .i64 r] 31)).alloc (Obj.cells #[.int .u8 lc, .int .u8 c] 57)) := hb2.mono (by omega)
  clear h hb1 hz1 hb2
  go_enter Try.func50, Try.ntmps50
  by_cases h0 : lc = 0
  · subst h0
    have hlv' := hlv rfl
    go_wp2_with fail
    generalize (w.alloc (Obj.cells #[.int .i64 lv, .int .u8 0, .int .u8 c, .int .i64 r] 31)).alloc (Obj.cells #[.int .u8 0, .int .u8 c] 57) = w2 at hx hs hL hbel ⊢
    refine (lookerAt_any lv g asg bad w2 hL hlv').mono ?_; rintro e w3 ⟨rfl, hL3, hw3⟩
    replace hx := hx.look (asg := asg) (v := lv) hne
    replace hs := hs.look (asg := asg) (v := lv) hne'
    rw [← hw3] at hx hs
    replace hbel : Below g w w3 := by rw [hw3]; exact hbel.trans lookW_below
    clear hL hw3 w2
    have hleft : leftQ asg lv 0 = atK asg lv := if_pos rfl
    have hbadl : badQ asg lv 0 r = (!okV asg lv || (decide (0 ≤ r) && !okV asg r)) := rfl
    have fs0 : w3.frozen? ⟨w.heap.size + 1, 0, none⟩ = false := hs.frozen 0
    have s0' : w3.cell? ⟨w.heap.size + 1, 0, none⟩ = some (.int .u8 0) := hs.cell 0
    have x3' : w3.cell? ⟨w.heap.size, 3, none⟩ = some (.int .i64 r) := hx.cell 3
    replace hx := hx.other (g' := w.heap.size + 1) (by omega) 0 (.int .u8 (atK asg lv))
    replace hs := hs.set_ 0 (.int .u8 (atK asg lv))
    have hL := hL3.store (s := w.heap.size + 1) (by omega) 0 (.int .u8 (atK asg lv))
    replace hbel := hbel.setCell (p := ⟨w.heap.size + 1, 0, none⟩) (by simp; omega) (.int .u8 (atK asg lv))
    clear hL3
    by_cases hr0 : 0 ≤ r
    · have H : Hid (decide (atK asg lv ≤ max c (atK asg r)) = holdsQ asg lv 0 c r) := by show _ = _; unfold holdsQ; rw [hleft, show rightQ asg c r = max c (atK asg r) from if_pos hr0]
      have HB : Hid ((bad || badQ asg lv 0 r) = ((or bad (!okV asg lv)) || !okV asg r)) := by show _ = _; rw [hbadl, decide_eq_true hr0]; (cases bad <;> cases okV asg lv <;> cases okV asg r <;> rfl)
      have x3 : (w3.setCell ⟨w.heap.size + 1, 0, none⟩ (.int .u8 (atK asg lv))).cell? ⟨w.heap.size, 3, none⟩ = some (.int .i64 r) := hx.cell 3
      have s0 : (w3.setCell ⟨w.heap.size + 1, 0, none⟩ (.int .u8 (atK asg lv))).cell? ⟨w.heap.size + 1, 0, none⟩ = some (.int .u8 (atK asg lv)) := hs.cell 0
      have s1 : (w3.setCell ⟨w.heap.size + 1, 0, none⟩ (.int .u8 (atK asg lv))).cell? ⟨w.heap.size + 1, 1, none⟩ = some (.int .u8 c) := hs.cell 1
      have fs1 : (w3.setCell ⟨w.heap.size + 1, 0, none⟩ (.int .u8 (atK asg lv))).frozen? ⟨w.heap.size + 1, 1, none⟩ = false := hs.frozen 1
      clear hleft hbadl
      go_wp2_with fail
      go_region_with ((first | (go_at_call 69; refine (lookerAt_x r g asg ((or bad (!okV asg lv))) _ (by exact hL) hr0 w w.heap.size (w.heap.size + 1) 31 57 #[.int .i64 lv, .int .u8 0, .int .u8 c, .int .i64 r] #[.int .u8 (atK asg lv), .int .u8 c] (by exact hbel.drew) (by exact hx) (by exact hs) hne hne').mono ?_; rintro e w4 ⟨rfl, hL4, hx4, hs4, hbel4⟩; have y3 : w4.cell? ⟨w.heap.size, 3, none⟩ = some (.int .i64 r) := hx4.cell 3; have q0 : w4.cell? ⟨w.heap.size + 1, 0, none⟩ = some (.int .u8 (atK asg lv)) := hs4.cell 0; have q1 : w4.cell? ⟨w.heap.size + 1, 1, none⟩ = some (.int .u8 c) := hs4.cell 1; have fq1 : w4.frozen? ⟨w.heap.size + 1, 1, none⟩ = false := hs4.frozen 1)))
      all_goals
        have hL5 := hL4.store (s := w.heap.size + 1) (by omega) 1 (.int .u8 (max c (atK asg r)))
        have hbel5 := hbel4.setCell (p := ⟨w.heap.size + 1, 1, none⟩) (by simp; omega) (.int .u8 (max c (atK asg r)))
        go_wp2_with fail
        go_ret
        exact ⟨by rw [← H.out]; rfl, by rw [HB.out]; exact hL5, hbel5⟩
    · have H : Hid (decide (atK asg lv ≤ c) = holdsQ asg lv 0 c r) := by show _ = _; unfold holdsQ; rw [hleft, show rightQ asg c r = c from if_neg hr0]
      have HB : Hid ((bad || badQ asg lv 0 r) = (or bad (!okV asg lv))) := by show _ = _; rw [hbadl, decide_eq_false hr0]; (cases bad <;> cases okV asg lv <;> cases okV asg r <;> rfl)
      have x3 : (w3.setCell ⟨w.heap.size + 1, 0, none⟩ (.int .u8 (atK asg lv))).cell? ⟨w.heap.size, 3, none⟩ = some (.int .i64 r) := hx.cell 3
      have s0 : (w3.setCell ⟨w.heap.size + 1, 0, none⟩ (.int .u8 (atK asg lv))).cell? ⟨w.heap.size + 1, 0, none⟩ = some (.int .u8 (atK asg lv)) := hs.cell 0
      have s1 : (w3.setCell ⟨w.heap.size + 1, 0, none⟩ (.int .u8 (atK asg lv))).cell? ⟨w.heap.size + 1, 1, none⟩ = some (.int .u8 c) := hs.cell 1
      clear hleft hbadl
      go_wp2_with fail
      go_ret
      exact ⟨by rw [← H.out]; rfl, by rw [HB.out]; exact hL, hbel⟩
  · have hleft : leftQ asg lv lc = lc := if_neg h0
    have hbadl : badQ asg lv lc r = (decide (0 ≤ r) && !okV asg r) := by simp [badQ, h0]
    have hlc : (lc == 0) = false := by simp [h0]
    by_cases hr0 : 0 ≤ r
    · have H : Hid (decide (lc ≤ max c (atK asg r)) = holdsQ asg lv lc c r) := by show _ = _; unfold holdsQ; rw [hleft, show rightQ asg c r = max c (atK asg r) from if_pos hr0]
      have HB : Hid ((bad || badQ asg lv lc r) = (bad || !okV asg r)) := by show _ = _; rw [hbadl, decide_eq_true hr0]; (cases bad <;> cases okV asg lv <;> cases okV asg r <;> rfl)
      have x3 : ((w.alloc (Obj.cells #[.int .i64 lv, .int .u8 lc, .int .u8 c, .int .i64 r] 31)).alloc (Obj.cells #[.int .u8 lc, .int .u8 c] 57)).cell? ⟨w.heap.size, 3, none⟩ = some (.int .i64 r) := hx.cell 3
      have s0 : ((w.alloc (Obj.cells #[.int .i64 lv, .int .u8 lc, .int .u8 c, .int .i64 r] 31)).alloc (Obj.cells #[.int .u8 lc, .int .u8 c] 57)).cell? ⟨w.heap.size + 1, 0, none⟩ = some (.int .u8 (lc)) := hs.cell 0
      have s1 : ((w.alloc (Obj.cells #[.int .i64 lv, .int .u8 lc, .int .u8 c, .int .i64 r] 31)).alloc (Obj.cells #[.int .u8 lc, .int .u8 c] 57)).cell? ⟨w.heap.size + 1, 1, none⟩ = some (.int .u8 c) := hs.cell 1
      have fs1 : ((w.alloc (Obj.cells #[.int .i64 lv, .int .u8 lc, .int .u8 c, .int .i64 r] 31)).alloc (Obj.cells #[.int .u8 lc, .int .u8 c] 57)).frozen? ⟨w.heap.size + 1, 1, none⟩ = false := hs.frozen 1
      clear hleft hbadl
      go_wp2_with fail
      go_region_with ((first | (go_at_call 69; refine (lookerAt_x r g asg (bad) _ (by exact hL) hr0 w w.heap.size (w.heap.size + 1) 31 57 #[.int .i64 lv, .int .u8 lc, .int .u8 c, .int .i64 r] #[.int .u8 (lc), .int .u8 c] (by exact hbel.drew) (by exact hx) (by exact hs) hne hne').mono ?_; rintro e w4 ⟨rfl, hL4, hx4, hs4, hbel4⟩; have y3 : w4.cell? ⟨w.heap.size, 3, none⟩ = some (.int .i64 r) := hx4.cell 3; have q0 : w4.cell? ⟨w.heap.size + 1, 0, none⟩ = some (.int .u8 (lc)) := hs4.cell 0; have q1 : w4.cell? ⟨w.heap.size + 1, 1, none⟩ = some (.int .u8 c) := hs4.cell 1; have fq1 : w4.frozen? ⟨w.heap.size + 1, 1, none⟩ = false := hs4.frozen 1)))
      all_goals
        have hL5 := hL4.store (s := w.heap.size + 1) (by omega) 1 (.int .u8 (max c (atK asg r)))
        have hbel5 := hbel4.setCell (p := ⟨w.heap.size + 1, 1, none⟩) (by simp; omega) (.int .u8 (max c (atK asg r)))
        go_wp2_with fail
        go_ret
        exact ⟨by rw [← H.out]; rfl, by rw [HB.out]; exact hL5, hbel5⟩
    · have H : Hid (decide (lc ≤ c) = holdsQ asg lv lc c r) := by show _ = _; unfold holdsQ; rw [hleft, show rightQ asg c r = c from if_neg hr0]
      have HB : Hid ((bad || badQ asg lv lc r) = bad) := by show _ = _; rw [hbadl, decide_eq_false hr0]; (cases bad <;> cases okV asg lv <;> cases okV asg r <;> rfl)
      have x3 : ((w.alloc (Obj.cells #[.int .i64 lv, .int .u8 lc, .int .u8 c, .int .i64 r] 31)).alloc (Obj.cells #[.int .u8 lc, .int .u8 c] 57)).cell? ⟨w.heap.size, 3, none⟩ = some (.int .i64 r) := hx.cell 3
      have s0 : ((w.alloc (Obj.cells #[.int .i64 lv, .int .u8 lc, .int .u8 c, .int .i64 r] 31)).alloc (Obj.cells #[.int .u8 lc, .int .u8 c] 57)).cell? ⟨w.heap.size + 1, 0, none⟩ = some (.int .u8 (lc)) := hs.cell 0
      have s1 : ((w.alloc (Obj.cells #[.int .i64 lv, .int .u8 lc, .int .u8 c, .int .i64 r] 31)).alloc (Obj.cells #[.int .u8 lc, .int .u8 c] 57)).cell? ⟨w.heap.size + 1, 1, none⟩ = some (.int .u8 c) := hs.cell 1
      clear hleft hbadl
      go_wp2_with fail
      go_ret
      exact ⟨by rw [← H.out]; rfl, by rw [HB.out]; exact hL, hbel⟩

end Go.Proofs.Ythabkpkgocafoaa

/- The contract of usufructref03.One. -/
namespace Go.Proofs.Ythabkpkgocafoaa
set_option linter.unusedVariables false
set_option linter.unusedSimpArgs false
open Go.RowKit


theorem okV_cell {w : World} {B : Nat} {A : Option Addr} {n c : Nat} {asg : List Int} {v : Int} (ha : RdI .u8 w B A n c asg) (hv : 0 ≤ v) (ho : okV asg v = true) :
    ∃ b off, ∃ m : Nat, A = some ⟨b, off, none⟩ ∧ v = (m : Int) ∧ m < n ∧ b < B ∧ w.cell? ⟨b, off + m, none⟩ = some (.int .u8 (atK asg v)) := by
  obtain ⟨m, rfl⟩ : ∃ m : Nat, v = (m : Int) := ⟨v.toNat, (Int.toNat_of_nonneg hv).symm⟩
  have hla := ha.len
  have hml : (m : Int) < asg.length := by
    unfold okV at ho
    rw [Bool.and_eq_true] at ho
    exact of_decide_eq_true ho.1
  obtain ⟨b, off, e, hb, hcell⟩ := ha.at_ (by omega)
  refine ⟨b, off, m, e, rfl, by omega, hb, ?_⟩
  have hm' : m < asg.length := by omega
  rw [hcell m hm']
  simp [atK, ho, atV, List.getD, hm']

theorem refOne_any (lv lc c r : Int) (A : Option Addr) (n cp : Nat) (asg : List Int) (w : World) (B : Nat) (ha : RdI .u8 w B A n cp asg) (hB : B ≤ w.heap.size) (hbad : badQ asg lv lc r = false) (hlv : lc = 0 → 0 ≤ lv) :
    Calls Try.prog 48 #[.agg #[.int .i64 lv, .int .u8 lc, .int .u8 c, .int .i64 r], .slice A n cp] w fun e w' => e = .returned (.bool (holdsQ asg lv lc c r)) ∧ Below w.heap.size w w' := by
  have hn63 : n ≤ 9223372036854775807 := Nat.le_trans ha.2.1 ha.2.2
  have hbel : Below w.heap.size w (w.alloc (Obj.cells #[.int .i64 lv, .int .u8 lc, .int .u8 c, .int .i64 r] 31)) := below_box _
  have ha1 := (ha.more hB).below hbel
  have h12 : (lc = 0 → okV asg lv = true) ∧ (0 ≤ r → okV asg r = true) := by
    unfold badQ at hbad
    rw [Bool.or_eq_false_iff] at hbad
    refine ⟨fun h => ?_, fun h => ?_⟩
    · have := hbad.1; rw [show (lc == 0) = true by simp [h]] at this; simpa using this
    · have := hbad.2; rw [decide_eq_true h] at this; simpa using this
  obtain ⟨h1, h2⟩ := h12
  clear hbad
  by_cases h0 : lc = 0
  · subst h0
    obtain ⟨b, off, m, rfl, hm, hmn, hb, hc⟩ := okV_cell ha1 (hlv rfl) (h1 rfl)
    have hleft : leftQ asg lv 0 = atK asg lv := if_pos rfl
    generalize atK asg lv = L at hc hleft
    clear h1 hlv
    subst hm
    by_cases hLc : L ≤ c
    · have H : Hid (true = holdsQ asg m 0 c r) := by
        show _ = _; unfold holdsQ; rw [hleft]; symm; apply decide_eq_true; unfold rightQ; split <;> omega
      clear hleft h2 ha1 ha
      go_enter Try.func48, Try.ntmps48
      go_wp2_with fail
      go_ret
      exact ⟨by rw [← H.out]; rfl, hbel⟩
    · by_cases hr0 : 0 ≤ r
      · obtain ⟨b', off', m', hA, hm', hmn', hb', hc'⟩ := okV_cell ha1 hr0 (h2 hr0)
        have hA' : off' = off ∧ b' = b := by simp at hA; omega
        obtain ⟨rfl, rfl⟩ := hA'
        have hright : rightQ asg c r = max c (atK asg r) := if_pos hr0
        generalize atK asg r = R at hc' hright
        subst hm'
        have H : Hid (decide (L ≤ R) = holdsQ asg m 0 c m') := by
          show _ = _; unfold holdsQ; rw [hleft, hright]; exact decide_eq_decide.2 (by omega)
        clear hleft hright h2 ha1 ha hA
        go_enter Try.func48, Try.ntmps48
        go_wp2_with fail
        go_ret
        exact ⟨by rw [← H.out]; rfl, hbel⟩
      · have H : Hid (false = holdsQ asg m 0 c r) := by
          show _ = _; unfold holdsQ; rw [hleft]; symm; apply decide_eq_false; unfold rightQ; rw [if_neg hr0]; omega
        clear hleft h2 ha1 ha
        go_enter Try.func48, Try.ntmps48
        go_wp2_with fail
        go_ret
        exact ⟨by rw [← H.out]; rfl, hbel⟩
  · have hleft : leftQ asg lv lc = lc := if_neg h0
    have hlc : (lc == 0) = false := by simp [h0]
    clear h1 hlv
    by_cases hLc : lc ≤ c
    · have H : Hid (true = holdsQ asg lv lc c r) := by
        show _ = _; unfold holdsQ; rw [hleft]; symm; apply decide_eq_true; unfold rightQ; split <;> omega
      clear hleft h2 ha1 ha
      go_enter Try.func48, Try.ntmps48
      go_wp2_with fail
      go_ret
      exact ⟨by rw [← H.out]; rfl, hbel⟩
    · by_cases hr0 : 0 ≤ r
      · obtain ⟨b', off', m', rfl, hm', hmn', hb', hc'⟩ := okV_cell ha1 hr0 (h2 hr0)
        have hright : rightQ asg c r = max c (atK asg r) := if_pos hr0
        generalize atK asg r = R at hc' hright
        subst hm'
        have H : Hid (decide (lc ≤ R) = holdsQ asg lv lc c m') := by
          show _ = _; unfold holdsQ; rw [hleft, hright]; exact decide_eq_decide.2 (by omega)
        clear hleft hright h2 ha1 ha
        go_enter Try.func48, Try.ntmps48
        go_wp2_with fail
        go_ret
        exact ⟨by rw [← H.out]; rfl, hbel⟩
      · have H : Hid (false = holdsQ asg lv lc c r) := by
          show _ = _; unfold holdsQ; rw [hleft]; symm; apply decide_eq_false; unfold rightQ; rw [if_neg hr0]; omega
        clear hleft h2 ha1 ha
        go_enter Try.func48, Try.ntmps48
        go_wp2_with fail
        go_ret
        exact ⟨by rw [← H.out]; rfl, hbel⟩

end Go.Proofs.Ythabkpkgocafoaa

/- The contract of ineq.Holds. -/
namespace Go.Proofs.Ythabkpkgocafoaa
set_option linter.unusedVariables false
set_option linter.unusedSimpArgs false
open Go.RowKit

def mayX (x : IneqD) : Bool := mayQ x.lv x.lc x.c x.r
def holdsX (asg : List Int) (x : IneqD) : Bool := holdsQ asg x.lv x.lc x.c x.r
def badX (asg : List Int) (x : IneqD) : Bool := badQ asg x.lv x.lc x.r
def firstGo (asg : List Int) : List IneqD → Int → Int
  | [], _ => -1
  | x :: r, i => if holdsX asg x then firstGo asg r (i + 1) else i
def holdsAll (asg : List Int) (xs : List IneqD) : Int × Int :=
  if xs.all mayX then (if xs.any (badX asg) then (0, 5) else (firstGo asg xs 0, 0)) else (0, 2)
theorem mayQ_at {lv lc c r x : Int} (hx : mayQE lv lc c r = x) (w : World) :
    Calls Try.prog 49 #[.agg #[.int .i64 lv, .int .u8 lc, .int .u8 c, .int .i64 r]] w fun e w' => e = .returned (.int .i64 x) ∧ Below w.heap.size w w' := by
  rw [← hx]; exact ineqMay_any lv lc c r w
theorem mayX_lv {x : IneqD} (h : mayX x = true) : x.lc = 0 → 0 ≤ x.lv := by
  intro h0
  unfold mayX mayQ isB oneB at h
  rw [h0] at h
  simp at h
  omega


theorem lookerHolds_at {lv lc c r : Int} {asg : List Int} {y : Bool} (hy : holdsQ asg lv lc c r = y) (g : Nat) (bad : Bool) (w : World) (h : Looks w g asg bad) (hg : g < w.heap.size) (hlv : lc = 0 → 0 ≤ lv) :
    Calls Try.prog 50 #[.pointer (some ⟨g, 0, none⟩), .agg #[.int .i64 lv, .int .u8 lc, .int .u8 c, .int .i64 r]] w fun e w' => e = .returned (.bool y) ∧ Looks w' g asg (bad || badQ asg lv lc r) ∧ Below g w w' := by
  rw [← hy]; exact lookerHolds_any lv lc c r g asg bad w h hg hlv

set_option maxHeartbeats 1000000 in
theorem holds_any (A : Option Addr) (n c : Nat) (xs : List IneqD) (A' : Option Addr) (n' c' : Nat) (asg : List Int) (w : World) (hx : IneqsV w w.heap.size A n c xs) (ha : RdI .u8 w w.heap.size A' n' c' asg) :
    Calls Try.prog 24 #[.slice A n c, .slice A' n' c'] w fun e w' => e = .returned (.tuple #[.int .i64 (holdsAll asg xs).1, .int .i64 (holdsAll asg xs).2]) ∧ Below w.heap.size w w' := by
  have hn63 : n ≤ 9223372036854775807 := Nat.le_trans hx.2.1 hx.2.2.1
  have Hl := Lib.hid hx.len
  have Hx := Lib.hid hx
  have Ha := Lib.hid ha
  clear hx ha
  go_enter Try.func24, Try.ntmps24
  go_wp2_with fail
  go_loopg [7, 8, 15] n (fun g p ev i wr => ∃ k : Nat, k ≤ n ∧ g = n - k ∧ i = .int .i64 k ∧ Hid (xs.all mayX = (xs.drop k).all mayX) ∧ Hid (Below w.heap.size w wr))
  case atStart => exact ⟨0, Nat.zero_le _, rfl, rfl, Lib.hid rfl, Lib.hid (Below.refl _ _)⟩
  case round =>
    obtain ⟨k, hk, rfl, rfl, Hm, Hb⟩ := hrel
    by_cases hlk : k < n
    · have hk' : k < xs.length := by rw [Hl.out]; exact hlk
      obtain ⟨b, off, rfl, hb, hcell⟩ := (Hx.out.below Hb.out).at_ (by omega)
      obtain ⟨e0, e1, e2, e3⟩ := hcell k hk'
      have hdrop : xs.drop k = xs[k] :: xs.drop (k + 1) := List.drop_eq_getElem_cons hk'
      generalize xs[k] = x at e0 e1 e2 e3 hdrop
      have Hdrop := Lib.hid hdrop
      clear hdrop hcell
      cases hm : mayX x
      · have H5 : Hid (holdsAll asg xs = (0, 2)) := by show _ = _; unfold holdsAll; rw [Hm.out, Hdrop.out]; simp [hm]
        have Hq : Hid (mayQE x.lv x.lc x.c x.r = 2) := Lib.hid (mayQE_no hm)
        clear hm
        go_wp2_with fail
        refine (mayQ_at Hq.out _).mono ?_; rintro e w2 ⟨rfl, hb2⟩
        have hb' := Hb.out.trans (((below_box _).trans (hb2.mono (by simp))).mono Hb.out.size)
        go_wp2_with fail
        go_ret2
        exact ⟨by rw [H5.out]; rfl, hb'⟩
      · have Hm' : Hid (xs.all mayX = (xs.drop (k + 1)).all mayX) := by show _ = _; rw [Hm.out, Hdrop.out]; simp [hm]
        have Hq : Hid (mayQE x.lv x.lc x.c x.r = 0) := Lib.hid (mayQE_yes hm)
        clear hm
        go_wp2_with fail
        refine (mayQ_at Hq.out _).mono ?_; rintro e w2 ⟨rfl, hb2⟩
        have Hb' := Lib.hid (Hb.out.trans (((below_box _).trans (hb2.mono (by simp))).mono Hb.out.size))
        go_wp2_with fail
        go_roundg (n - (k + 1))
        case measure => omega
        case rel => exact ⟨k + 1, by omega, rfl, by go_num, Hm', Hb'⟩
    · have hkn : k = n := by omega
      subst hkn
      have Hall : Hid (xs.all mayX = true) := by show _ = _; rw [Hm.out, List.drop_of_length_le (by rw [Hl.out]; exact Nat.le_refl _)]; rfl
      go_wp2_with fail
      have hlook : Looks (wr.alloc (Obj.cells #[.slice A' n' c', .bool false] 83)) wr.heap.size asg false :=
        ⟨A', n', c', blk_new _ _ _, (((Ha.out.below Hb.out).more Hb.out.size).below (below_box _))⟩
      have hb1 : Below w.heap.size w (wr.alloc (Obj.cells #[.slice A' n' c', .bool false] 83)) := Hb.out.trans ((below_box _).mono Hb.out.size)
      have hg1 : wr.heap.size < (wr.alloc (Obj.cells #[.slice A' n' c', .bool false] 83)).heap.size := by simp
      have hg0 := Hb.out.size
      generalize wr.alloc (Obj.cells #[.slice A' n' c', .bool false] 83) = w1 at hlook hb1 hg1 ⊢
      generalize wr.heap.size = gl at hlook hg1 hg0 ⊢
      have Hlook := Lib.hid hlook
      have Hb1 := Lib.hid hb1
      have Hg1 := Lib.hid hg1
      have Hg0 := Lib.hid hg0
      clear hlook hb1 hg1 hg0 Hb Hm
      go_loopg [10, 11, 12, 30] k (fun g f _ p i wr => ∃ (j : Nat) (F : Int) (bad : Bool), j ≤ k ∧ g = k - j ∧ i = .int .i64 j ∧ f = .int .i64 F ∧ Hid (Looks wr gl asg bad) ∧ Hid (Below w.heap.size w wr) ∧ Hid (gl < wr.heap.size) ∧ Hid (xs.any (badX asg) = (bad || (xs.drop j).any (badX asg))) ∧ (F < 0 ∧ F = -1 ∧ Hid (firstGo asg xs 0 = firstGo asg (xs.drop j) j) ∨ 0 ≤ F ∧ Hid (firstGo asg xs 0 = F)))
      case atStart => exact ⟨0, -1, false, Nat.zero_le _, rfl, rfl, rfl, Hlook, Hb1, Hg1, Lib.hid rfl, .inl ⟨by omega, rfl, Lib.hid rfl⟩⟩
      case round =>
        obtain ⟨j, F, bad, hj, rfl, rfl, rfl, HL, HB, HG, Hbad, hF⟩ := hrel
        by_cases hlj : j < k
        · have hj' : j < xs.length := by rw [Hl.out]; exact hlj
          obtain ⟨b, off, rfl, hb, hcell⟩ := (Hx.out.below HB.out).at_ (by omega)
          obtain ⟨e0, e1, e2, e3⟩ := hcell j hj'
          have hdrop : xs.drop j = xs[j] :: xs.drop (j + 1) := List.drop_eq_getElem_cons hj'
          have hmx : mayX xs[j] = true := List.all_eq_true.1 Hall.out _ (List.getElem_mem hj')
          generalize xs[j] = x at e0 e1 e2 e3 hdrop hmx
          have Hdrop := Lib.hid hdrop
          have Hlv := Lib.hid (mayX_lv hmx)
          clear hdrop hcell hmx
          cases hh : holdsX asg x
          · have Hh : Hid (holdsQ asg x.lv x.lc x.c x.r = false) := Lib.hid hh
            have Hh' : Hid (holdsX asg x = false) := Lib.hid hh
            clear hh
            rcases hF with ⟨hF0, rfl, HF⟩ | ⟨hF0, HF⟩
            · have HF' : Hid (firstGo asg xs 0 = (j : Int)) := by show _ = _; rw [HF.out, Hdrop.out]; simp [firstGo, Hh'.out]
              clear HF hF0
              have HL2 := Lib.hid (HL.out.below (below_box (w := wr) (Obj.cells #[.int .i64 x.lv, .int .u8 x.lc, .int .u8 x.c, .int .i64 x.r] 31)) HG.out)
              have HG2 : Hid (gl < (wr.alloc (Obj.cells #[.int .i64 x.lv, .int .u8 x.lc, .int .u8 x.c, .int .i64 x.r] 31)).heap.size) := Lib.hid (Nat.lt_of_lt_of_le HG.out (below_box (w := wr) _).size)
              go_wp2_with fail
              refine (lookerHolds_at Hh.out gl bad _ HL2.out HG2.out Hlv.out).mono ?_; rintro e w2 ⟨rfl, hL3, hb3⟩
              have HB' := Lib.hid (HB.out.trans (((below_box (w := wr) _).mono HB.out.size).trans (hb3.mono Hg0.out)))
              have HG' : Hid (gl < w2.heap.size) := Lib.hid (Nat.lt_of_lt_of_le HG2.out hb3.size)
              have Hbad' : Hid (xs.any (badX asg) = ((bad || badQ asg x.lv x.lc x.r) || (xs.drop (j + 1)).any (badX asg))) := by show _ = _; rw [Hbad.out, Hdrop.out]; simp [badX, Bool.or_assoc]
              clear hb3
              go_wp2_with fail
              go_roundg (k - (j + 1))
              case measure => omega
              case rel => exact ⟨j + 1, j, _, by omega, rfl, by go_num, rfl, Lib.hid hL3, HB', HG', Hbad', .inr ⟨by omega, HF'⟩⟩
            ·
              have HL2 := Lib.hid (HL.out.below (below_box (w := wr) (Obj.cells #[.int .i64 x.lv, .int .u8 x.lc, .int .u8 x.c, .int .i64 x.r] 31)) HG.out)
              have HG2 : Hid (gl < (wr.alloc (Obj.cells #[.int .i64 x.lv, .int .u8 x.lc, .int .u8 x.c, .int .i64 x.r] 31)).heap.size) := Lib.hid (Nat.lt_of_lt_of_le HG.out (below_box (w := wr) _).size)
              go_wp2_with fail
              refine (lookerHolds_at Hh.out gl bad _ HL2.out HG2.out Hlv.out).mono ?_; rintro e w2 ⟨rfl, hL3, hb3⟩
              have HB' := Lib.hid (HB.out.trans (((below_box (w := wr) _).mono HB.out.size).trans (hb3.mono Hg0.out)))
              have HG' : Hid (gl < w2.heap.size) := Lib.hid (Nat.lt_of_lt_of_le HG2.out hb3.size)
              have Hbad' : Hid (xs.any (badX asg) = ((bad || badQ asg x.lv x.lc x.r) || (xs.drop (j + 1)).any (badX asg))) := by show _ = _; rw [Hbad.out, Hdrop.out]; simp [badX, Bool.or_assoc]
              clear hb3
              go_wp2_with fail
              go_roundg (k - (j + 1))
              case measure => omega
              case rel => exact ⟨j + 1, F, _, by omega, rfl, by go_num, rfl, Lib.hid hL3, HB', HG', Hbad', .inr ⟨hF0, HF⟩⟩
          · have Hh : Hid (holdsQ asg x.lv x.lc x.c x.r = true) := Lib.hid hh
            have Hh' : Hid (holdsX asg x = true) := Lib.hid hh
            clear hh
            rcases hF with ⟨hF0, rfl, HF⟩ | ⟨hF0, HF⟩
            · have HF' : Hid (firstGo asg xs 0 = firstGo asg (xs.drop (j + 1)) ((j + 1 : Nat) : Int)) := by show _ = _; rw [HF.out, Hdrop.out]; simp [firstGo, Hh'.out]
              clear HF hF0
              have HL2 := Lib.hid (HL.out.below (below_box (w := wr) (Obj.cells #[.int .i64 x.lv, .int .u8 x.lc, .int .u8 x.c, .int .i64 x.r] 31)) HG.out)
              have HG2 : Hid (gl < (wr.alloc (Obj.cells #[.int .i64 x.lv, .int .u8 x.lc, .int .u8 x.c, .int .i64 x.r] 31)).heap.size) := Lib.hid (Nat.lt_of_lt_of_le HG.out (below_box (w := wr) _).size)
              go_wp2_with fail
              refine (lookerHolds_at Hh.out gl bad _ HL2.out HG2.out Hlv.out).mono ?_; rintro e w2 ⟨rfl, hL3, hb3⟩
              have HB' := Lib.hid (HB.out.trans (((below_box (w := wr) _).mono HB.out.size).trans (hb3.mono Hg0.out)))
              have HG' : Hid (gl < w2.heap.size) := Lib.hid (Nat.lt_of_lt_of_le HG2.out hb3.size)
              have Hbad' : Hid (xs.any (badX asg) = ((bad || badQ asg x.lv x.lc x.r) || (xs.drop (j + 1)).any (badX asg))) := by show _ = _; rw [Hbad.out, Hdrop.out]; simp [badX, Bool.or_assoc]
              clear hb3
              go_wp2_with fail
              go_roundg (k - (j + 1))
              case measure => omega
              case rel => exact ⟨j + 1, -1, _, by omega, rfl, by go_num, rfl, Lib.hid hL3, HB', HG', Hbad', .inl ⟨by omega, rfl, HF'⟩⟩
            ·
              have HL2 := Lib.hid (HL.out.below (below_box (w := wr) (Obj.cells #[.int .i64 x.lv, .int .u8 x.lc, .int .u8 x.c, .int .i64 x.r] 31)) HG.out)
              have HG2 : Hid (gl < (wr.alloc (Obj.cells #[.int .i64 x.lv, .int .u8 x.lc, .int .u8 x.c, .int .i64 x.r] 31)).heap.size) := Lib.hid (Nat.lt_of_lt_of_le HG.out (below_box (w := wr) _).size)
              go_wp2_with fail
              refine (lookerHolds_at Hh.out gl bad _ HL2.out HG2.out Hlv.out).mono ?_; rintro e w2 ⟨rfl, hL3, hb3⟩
              have HB' := Lib.hid (HB.out.trans (((below_box (w := wr) _).mono HB.out.size).trans (hb3.mono Hg0.out)))
              have HG' : Hid (gl < w2.heap.size) := Lib.hid (Nat.lt_of_lt_of_le HG2.out hb3.size)
              have Hbad' : Hid (xs.any (badX asg) = ((bad || badQ asg x.lv x.lc x.r) || (xs.drop (j + 1)).any (badX asg))) := by show _ = _; rw [Hbad.out, Hdrop.out]; simp [badX, Bool.or_assoc]
              clear hb3
              go_wp2_with fail
              go_roundg (k - (j + 1))
              case measure => omega
              case rel => exact ⟨j + 1, F, _, by omega, rfl, by go_num, rfl, Lib.hid hL3, HB', HG', Hbad', .inr ⟨hF0, HF⟩⟩
        · have hjk : j = k := by omega
          subst hjk
          have hfin : (F < 0 ∧ F = -1 ∨ 0 ≤ F) ∧ Hid (firstGo asg xs 0 = F) := by
            rcases hF with ⟨h1, h2, h3⟩ | ⟨h1, h3⟩
            · exact ⟨.inl ⟨h1, h2⟩, by show _ = _; rw [h3.out, List.drop_of_length_le (by rw [Hl.out]; exact Nat.le_refl _), h2]; rfl⟩
            · exact ⟨.inr h1, h3⟩
          obtain ⟨_, HF⟩ := hfin
          clear hF
          have hany : xs.any (badX asg) = bad := by rw [Hbad.out, List.drop_of_length_le (by rw [Hl.out]; exact Nat.le_refl _)]; simp
          cases bad
          · have H5 : Hid (holdsAll asg xs = (F, 0)) := by show _ = _; unfold holdsAll; rw [Hall.out, hany, HF.out]; rfl
            obtain ⟨A2, n2, c2, hk2, _⟩ := HL.out
            have z1 : wr.cell? ⟨gl, 1, none⟩ = some (.bool false) := hk2.cell 1
            clear hany hk2
            go_wp2_with fail
            go_ret2
            exact ⟨by rw [H5.out]; rfl, HB.out⟩
          · have H5 : Hid (holdsAll asg xs = (0, 5)) := by show _ = _; unfold holdsAll; rw [Hall.out, hany]; rfl
            obtain ⟨A2, n2, c2, hk2, _⟩ := HL.out
            have z1 : wr.cell? ⟨gl, 1, none⟩ = some (.bool true) := hk2.cell 1
            clear hany hk2
            go_wp2_with fail
            go_ret2
            exact ⟨by rw [H5.out]; rfl, HB.out⟩

end Go.Proofs.Ythabkpkgocafoaa

