/- Terms in memory: what a value, a cell, a slice of them reads as. No function of the program. -/
import Derived.Test.YthabkpkgocafoaaBase
namespace Go.Proofs.Ythabkpkgocafoaa
set_option linter.unusedVariables false
set_option linter.unusedSimpArgs false
open Go.RowKit

/-- a term -/
structure TermD where
  never : Bool
  c : Int
  vars : List Int

/-- a slice of ints: '.slice A n c' reads as us, below block B -/
def RdI (k : IntKind) (w : World) (B : Nat) (A : Option Addr) (n c : Nat) (us : List Int) : Prop :=
  Rd w B 1 A n (us.map (Value.int k)) ∧ n ≤ c ∧ c ≤ maxLen

section
variable {k : IntKind} {w w' : World} {B B' n c : Nat} {A : Option Addr} {us : List Int}
theorem RdI.len (h : RdI k w B A n c us) : us.length = n := by simpa using h.1.1
theorem RdI.nil : RdI k w B none 0 0 [] := ⟨Rd.nil, Nat.le_refl _, Nat.zero_le _⟩
theorem RdI.keep (h : RdI k w B A n c us) (hk : ∀ p : Addr, p.block < B → w'.cell? p = w.cell? p) : RdI k w' B A n c us := ⟨h.1.keep hk, h.2⟩
theorem RdI.more (h : RdI k w B A n c us) (hB : B ≤ B') : RdI k w B' A n c us := ⟨h.1.more hB, h.2⟩
theorem RdI.below (h : RdI k w B A n c us) (hb : Below B w w') : RdI k w' B A n c us := h.keep fun _ hp => hb.cell hp
theorem RdI.cell (h : RdI k w B A n c us) {i : Nat} (hi : i < n) : ∃ b off, A = some ⟨b, off, none⟩ ∧ b < B ∧ w.cell? ⟨b, off + i, none⟩ = some (.int k (us[i]'(by rw [h.len]; exact hi))) := by
  obtain ⟨b, off, e, hb, hc⟩ := h.1.2 (by omega)
  exact ⟨b, off, e, hb, hc i _ (by simp [h.len, hi])⟩
theorem RdI.at_ (h : RdI k w B A n c us) (hn : 0 < n) : ∃ b off, A = some ⟨b, off, none⟩ ∧ b < B ∧ ∀ i (hi : i < us.length), w.cell? ⟨b, off + i, none⟩ = some (.int k us[i]) := by
  obtain ⟨b, off, e, hb, hc⟩ := h.1.2 hn
  exact ⟨b, off, e, hb, fun i hi => hc i _ (by simp [hi])⟩
end

/-- a term by value -/
def TermV (w : World) (B : Nat) (v : Value) (t : TermD) : Prop :=
  ∃ A n c, v = .agg #[.bool t.never, .int .u8 t.c, .slice A n c] ∧ RdI .i64 w B A n c t.vars
/-- a term in three cells -/
def TermAt (w : World) (B b off : Nat) (t : TermD) : Prop :=
  ∃ A n c, w.cell? ⟨b, off, none⟩ = some (.bool t.never) ∧ w.cell? ⟨b, off + 1, none⟩ = some (.int .u8 t.c) ∧ w.cell? ⟨b, off + 2, none⟩ = some (.slice A n c) ∧ RdI .i64 w B A n c t.vars
/-- a slice of terms -/
def TermsV (w : World) (B : Nat) (A : Option Addr) (n c : Nat) (ts : List TermD) : Prop :=
  ts.length = n ∧ n ≤ c ∧ c ≤ maxLen ∧ (0 < n → ∃ b off, A = some ⟨b, off, none⟩ ∧ b < B ∧ ∀ i (h : i < ts.length), TermAt w B b (off + i * 3) ts[i])

section
variable {w w' : World} {B B' : Nat} {v : Value} {t : TermD}
theorem TermV.keep (h : TermV w B v t) (hk : ∀ p : Addr, p.block < B → w'.cell? p = w.cell? p) : TermV w' B v t := by
  obtain ⟨A, n, c, e, hr⟩ := h
  exact ⟨A, n, c, e, hr.keep hk⟩
theorem TermV.more (h : TermV w B v t) (hB : B ≤ B') : TermV w B' v t := by
  obtain ⟨A, n, c, e, hr⟩ := h
  exact ⟨A, n, c, e, hr.more hB⟩
theorem TermV.below (h : TermV w B v t) (hb : Below B w w') : TermV w' B v t := h.keep fun _ hp => hb.cell hp
theorem TermAt.keep {b off : Nat} (h : TermAt w B b off t) (hb : b < B) (hk : ∀ p : Addr, p.block < B → w'.cell? p = w.cell? p) : TermAt w' B b off t := by
  obtain ⟨A, n, c, e1, e2, e3, hr⟩ := h
  exact ⟨A, n, c, (hk _ hb).trans e1, (hk _ hb).trans e2, (hk _ hb).trans e3, hr.keep hk⟩
theorem TermAt.more {b off : Nat} (h : TermAt w B b off t) (hB : B ≤ B') : TermAt w B' b off t := by
  obtain ⟨A, n, c, e1, e2, e3, hr⟩ := h
  exact ⟨A, n, c, e1, e2, e3, hr.more hB⟩
theorem TermAt.val {b off : Nat} (h : TermAt w B b off t) : ∃ A n c, w.cell? ⟨b, off, none⟩ = some (.bool t.never) ∧ w.cell? ⟨b, off + 1, none⟩ = some (.int .u8 t.c) ∧ w.cell? ⟨b, off + 2, none⟩ = some (.slice A n c) ∧
    TermV w B (.agg #[.bool t.never, .int .u8 t.c, .slice A n c]) t := by
  obtain ⟨A, n, c, e1, e2, e3, hr⟩ := h
  exact ⟨A, n, c, e1, e2, e3, A, n, c, rfl, hr⟩
theorem TermsV.keep {A : Option Addr} {n c : Nat} {ts : List TermD} (h : TermsV w B A n c ts) (hk : ∀ p : Addr, p.block < B → w'.cell? p = w.cell? p) : TermsV w' B A n c ts := by
  obtain ⟨h1, h2, h3, h4⟩ := h
  refine ⟨h1, h2, h3, fun hn => ?_⟩
  obtain ⟨b, off, e, hb, hc⟩ := h4 hn
  exact ⟨b, off, e, hb, fun i hi => (hc i hi).keep hb hk⟩
theorem TermsV.more {A : Option Addr} {n c : Nat} {ts : List TermD} (h : TermsV w B A n c ts) (hB : B ≤ B') : TermsV w B' A n c ts := by
  obtain ⟨h1, h2, h3, h4⟩ := h
  refine ⟨h1, h2, h3, fun hn => ?_⟩
  obtain ⟨b, off, e, hb, hc⟩ := h4 hn
  exact ⟨b, off, e, by omega, fun i hi => (hc i hi).more hB⟩
theorem TermsV.below {A : Option Addr} {n c : Nat} {ts : List TermD} (h : TermsV w B A n c ts) (hb : Below B w w') : TermsV w' B A n c ts := h.keep fun _ hp => hb.cell hp
theorem TermsV.nil : TermsV w B none 0 0 [] := ⟨rfl, Nat.le_refl _, Nat.zero_le _, fun h => absurd h (by omega)⟩
end

/-- facts on old cells, for the walk, behind a call that makes blocks -/
theorem bcell {W w1 : World} (hb : Below W.heap.size W w1) : (∀ b o, b < W.heap.size → w1.cell? ⟨b, o, none⟩ = W.cell? ⟨b, o, none⟩) := fun b o h => hb.cell (p := ⟨b, o, none⟩) h

end Go.Proofs.Ythabkpkgocafoaa
