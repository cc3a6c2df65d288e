/- What package ineq computes, as plain functions; a slice of inequalities in memory. -/
import Derived.Test.YthabkpkgocafoaaTermDef
import Derived.Test.YthabkpkgocafoaaMem
import Derived.Test.YthabkpkgocafoaaTermIs
namespace Go.Proofs.Ythabkpkgocafoaa
set_option linter.unusedVariables false
set_option linter.unusedSimpArgs false
open Go.RowKit

/-- an inequality: l's variable and multiplicity, the bound's multiplicity and variable -/
structure IneqD where
  lv : Int
  lc : Int
  c : Int
  r : Int
deriving DecidableEq

def mayQ (lv lc c r : Int) : Bool := isB lc lv && decide (1 ≤ c) && decide (c ≤ 3) && decide (-1 ≤ r) && decide (r < 1048576)
def mayQE (lv lc c r : Int) : Int := if mayQ lv lc c r then 0 else 2
theorem mayQE_yes {lv lc c r : Int} (h : mayQ lv lc c r = true) : mayQE lv lc c r = 0 := by simp [mayQE, h]
theorem mayQE_no {lv lc c r : Int} (h : mayQ lv lc c r = false) : mayQE lv lc c r = 2 := by simp [mayQE, h]
/-- a variable's multiplicity, by the program: what has no place is 1 -/
def atK (asg : List Int) (v : Int) : Int := if okV asg v then atV asg v else 1
def leftQ (asg : List Int) (lv lc : Int) : Int := if lc = 0 then atK asg lv else lc
def rightQ (asg : List Int) (c r : Int) : Int := if 0 ≤ r then max c (atK asg r) else c
def holdsQ (asg : List Int) (lv lc c r : Int) : Bool := decide (leftQ asg lv lc ≤ rightQ asg c r)
def badQ (asg : List Int) (lv lc r : Int) : Bool := (lc == 0 && !okV asg lv) || (decide (0 ≤ r) && !okV asg r)

/-- an inequality in four cells -/
def IneqAt (w : World) (b off : Nat) (x : IneqD) : Prop :=
  w.cell? ⟨b, off, none⟩ = some (.int .i64 x.lv) ∧ w.cell? ⟨b, off + 1, none⟩ = some (.int .u8 x.lc) ∧ w.cell? ⟨b, off + 2, none⟩ = some (.int .u8 x.c) ∧ w.cell? ⟨b, off + 3, none⟩ = some (.int .i64 x.r)
/-- a slice of inequalities -/
def IneqsV (w : World) (B : Nat) (A : Option Addr) (n c : Nat) (xs : List IneqD) : Prop :=
  xs.length = n ∧ n ≤ c ∧ c ≤ maxLen ∧ (0 < n → ∃ b off, A = some ⟨b, off, none⟩ ∧ b < B ∧ ∀ i (h : i < xs.length), IneqAt w b (off + i * 4) xs[i])
section
variable {w w' : World} {B B' : Nat} {A : Option Addr} {n c : Nat} {xs : List IneqD}
theorem IneqAt.keep {b off : Nat} {x : IneqD} (h : IneqAt w b off x) (hb : b < B) (hk : ∀ p : Addr, p.block < B → w'.cell? p = w.cell? p) : IneqAt w' b off x := by
  obtain ⟨e1, e2, e3, e4⟩ := h
  exact ⟨(hk _ hb).trans e1, (hk _ hb).trans e2, (hk _ hb).trans e3, (hk _ hb).trans e4⟩
theorem IneqsV.keep (h : IneqsV w B A n c xs) (hk : ∀ p : Addr, p.block < B → w'.cell? p = w.cell? p) : IneqsV w' B A n c xs := by
  obtain ⟨h1, h2, h3, h4⟩ := h
  refine ⟨h1, h2, h3, fun hn => ?_⟩
  obtain ⟨b, off, e, hb, hc⟩ := h4 hn
  exact ⟨b, off, e, hb, fun i hi => (hc i hi).keep hb hk⟩
theorem IneqsV.more (h : IneqsV w B A n c xs) (hB : B ≤ B') : IneqsV w B' A n c xs := by
  obtain ⟨h1, h2, h3, h4⟩ := h
  refine ⟨h1, h2, h3, fun hn => ?_⟩
  obtain ⟨b, off, e, hb, hc⟩ := h4 hn
  exact ⟨b, off, e, by omega, hc⟩
theorem IneqsV.below (h : IneqsV w B A n c xs) (hb : Below B w w') : IneqsV w' B A n c xs := h.keep fun _ hp => hb.cell hp
theorem IneqsV.nil : IneqsV w B none 0 0 [] := ⟨rfl, Nat.le_refl _, Nat.zero_le _, fun h => absurd h (by omega)⟩
theorem IneqsV.len (h : IneqsV w B A n c xs) : xs.length = n := h.1
theorem IneqsV.at_ (h : IneqsV w B A n c xs) (hn : 0 < n) : ∃ b off, A = some ⟨b, off, none⟩ ∧ b < B ∧ ∀ i (h : i < xs.length), IneqAt w b (off + i * 4) xs[i] := h.2.2.2 hn
end

/-- the memory of a looker: block g -/
def Looks (w : World) (g : Nat) (asg : List Int) (bad : Bool) : Prop := ∃ A n c, Blk w g 83 #[.slice A n c, .bool bad] ∧ RdI .u8 w g A n c asg

theorem is_at (c v : Int) (x : Int) (hx : isE c v = x) (w : World) :
    Calls Try.prog 68 #[.agg #[.int .i64 v, .int .u8 c]] w fun e w' => e = .returned (.int .i64 x) ∧ Below w.heap.size w w' := by
  rw [← hx]; exact is_any c v w

end Go.Proofs.Ythabkpkgocafoaa
