/- Types as trees, and how they lie in memory. -/
import Derived.Test.YtidamlkekgnhgaaDoorMem
namespace Go.Proofs.YtidamlkekgnhgaaDoor
set_option linter.unusedVariables false
set_option linter.unusedSimpArgs false
open Go.RowKit

/-- a type: kind, number, the multiplicity's variable and constant, the types within -/
inductive TyD where
  | mk (k n v c : Int) (l : List TyD)
namespace TyD
def k : TyD → Int | mk k _ _ _ _ => k
def n : TyD → Int | mk _ n _ _ _ => n
def v : TyD → Int | mk _ _ v _ _ => v
def c : TyD → Int | mk _ _ _ c _ => c
def l : TyD → List TyD | mk _ _ _ _ l => l
theorem eta (t : TyD) : t = mk t.k t.n t.v t.c t.l := by cases t; rfl
end TyD
instance : Inhabited TyD := ⟨.mk 0 0 0 0 []⟩

mutual
/-- a type in the five cells at off of block b -/
def TyAt (w : World) (B : Nat) : TyD → Nat → Nat → Prop
  | .mk k n v c l, b, off => w.cell? ⟨b, off, none⟩ = some (.int .u8 k) ∧ w.cell? ⟨b, off + 1, none⟩ = some (.int .i64 n) ∧ w.cell? ⟨b, off + 2, none⟩ = some (.int .i64 v) ∧ w.cell? ⟨b, off + 3, none⟩ = some (.int .u8 c) ∧
    ∃ A m cp, w.cell? ⟨b, off + 4, none⟩ = some (.slice A m cp) ∧ l.length = m ∧ m ≤ cp ∧ cp ≤ maxLen ∧ (0 < m → ∃ b' off', A = some ⟨b', off', none⟩ ∧ b' < B ∧ TyRow w B l b' off')
/-- types one behind the other -/
def TyRow (w : World) (B : Nat) : List TyD → Nat → Nat → Prop
  | [], _, _ => True
  | t :: r, b, off => TyAt w B t b off ∧ TyRow w B r b (off + 5)
end
/-- a slice of types -/
def TysV (w : World) (B : Nat) (A : Option Addr) (m cp : Nat) (l : List TyD) : Prop :=
  l.length = m ∧ m ≤ cp ∧ cp ≤ maxLen ∧ (0 < m → ∃ b off, A = some ⟨b, off, none⟩ ∧ b < B ∧ TyRow w B l b off)
theorem tyAt_iff {w : World} {B : Nat} {t : TyD} {b off : Nat} : TyAt w B t b off ↔ w.cell? ⟨b, off, none⟩ = some (.int .u8 t.k) ∧ w.cell? ⟨b, off + 1, none⟩ = some (.int .i64 t.n) ∧ w.cell? ⟨b, off + 2, none⟩ = some (.int .i64 t.v) ∧ w.cell? ⟨b, off + 3, none⟩ = some (.int .u8 t.c) ∧
    ∃ A m cp, w.cell? ⟨b, off + 4, none⟩ = some (.slice A m cp) ∧ TysV w B A m cp t.l := by
  cases t
  rw [TyAt]
  exact Iff.rfl

mutual
theorem TyAt.keep {w w' : World} {B : Nat} (hk : ∀ p : Addr, p.block < B → w'.cell? p = w.cell? p) : ∀ (t : TyD) (b off : Nat), b < B → TyAt w B t b off → TyAt w' B t b off
  | .mk k n v c l, b, off, hb, h => by
    rw [TyAt] at h ⊢
    obtain ⟨h0, h1, h2, h3, A, m, cp, h4, e1, e2, e3, e4⟩ := h
    refine ⟨(hk _ hb).trans h0, (hk _ hb).trans h1, (hk _ hb).trans h2, (hk _ hb).trans h3, A, m, cp, (hk _ hb).trans h4, e1, e2, e3, fun hm => ?_⟩
    obtain ⟨b', off', e, hb', hr⟩ := e4 hm
    exact ⟨b', off', e, hb', TyRow.keep hk l b' off' hb' hr⟩
theorem TyRow.keep {w w' : World} {B : Nat} (hk : ∀ p : Addr, p.block < B → w'.cell? p = w.cell? p) : ∀ (l : List TyD) (b off : Nat), b < B → TyRow w B l b off → TyRow w' B l b off
  | [], _, _, _, _ => by rw [TyRow]; trivial
  | t :: r, b, off, hb, h => by
    rw [TyRow] at h ⊢
    exact ⟨TyAt.keep hk t b off hb h.1, TyRow.keep hk r b (off + 5) hb h.2⟩
end
mutual
theorem TyAt.more {w : World} {B B' : Nat} (hB : B ≤ B') : ∀ (t : TyD) (b off : Nat), TyAt w B t b off → TyAt w B' t b off
  | .mk k n v c l, b, off, h => by
    rw [TyAt] at h ⊢
    obtain ⟨h0, h1, h2, h3, A, m, cp, h4, e1, e2, e3, e4⟩ := h
    refine ⟨h0, h1, h2, h3, A, m, cp, h4, e1, e2, e3, fun hm => ?_⟩
    obtain ⟨b', off', e, hb', hr⟩ := e4 hm
    exact ⟨b', off', e, by omega, TyRow.more hB l b' off' hr⟩
theorem TyRow.more {w : World} {B B' : Nat} (hB : B ≤ B') : ∀ (l : List TyD) (b off : Nat), TyRow w B l b off → TyRow w B' l b off
  | [], _, _, _ => by rw [TyRow]; trivial
  | t :: r, b, off, h => by
    rw [TyRow] at h ⊢
    exact ⟨TyAt.more hB t b off h.1, TyRow.more hB r b (off + 5) h.2⟩
end
theorem TyRow.get {w : World} {B : Nat} : ∀ {l : List TyD} {b off : Nat}, TyRow w B l b off → ∀ i (h : i < l.length), TyAt w B l[i] b (off + i * 5)
  | t :: r, b, off, h, 0, _ => by
    rw [TyRow] at h
    rw [Nat.zero_mul, Nat.add_zero]
    exact h.1
  | t :: r, b, off, h, i + 1, hi => by
    rw [TyRow] at h
    have := TyRow.get h.2 i (by simpa using hi)
    rw [show off + (i + 1) * 5 = off + 5 + i * 5 from by omega]
    exact this
theorem TyRow.of {w : World} {B : Nat} : ∀ {l : List TyD} {b off : Nat}, (∀ i (h : i < l.length), TyAt w B l[i] b (off + i * 5)) → TyRow w B l b off
  | [], _, _, _ => by rw [TyRow]; trivial
  | t :: r, b, off, h => by
    rw [TyRow]
    have h0 := h 0 (by simp)
    rw [Nat.zero_mul, Nat.add_zero] at h0
    refine ⟨h0, TyRow.of fun i hi => ?_⟩
    have := h (i + 1) (by simpa using hi)
    rw [show off + (i + 1) * 5 = off + 5 + i * 5 from by omega] at this
    exact this
section
variable {w w' : World} {B B' : Nat} {A : Option Addr} {m cp : Nat} {l : List TyD}
theorem TysV.keep (h : TysV w B A m cp l) (hk : ∀ p : Addr, p.block < B → w'.cell? p = w.cell? p) : TysV w' B A m cp l := by
  obtain ⟨h1, h2, h3, h4⟩ := h
  refine ⟨h1, h2, h3, fun hm => ?_⟩
  obtain ⟨b, off, e, hb, hr⟩ := h4 hm
  exact ⟨b, off, e, hb, TyRow.keep hk l b off hb hr⟩
theorem TysV.more (h : TysV w B A m cp l) (hB : B ≤ B') : TysV w B' A m cp l := by
  obtain ⟨h1, h2, h3, h4⟩ := h
  refine ⟨h1, h2, h3, fun hm => ?_⟩
  obtain ⟨b, off, e, hb, hr⟩ := h4 hm
  exact ⟨b, off, e, by omega, TyRow.more hB l b off hr⟩
theorem TysV.below (h : TysV w B A m cp l) (hb : Below B w w') : TysV w' B A m cp l := h.keep fun _ hp => hb.cell hp
theorem TysV.len (h : TysV w B A m cp l) : l.length = m := h.1
theorem TysV.nil : TysV w B none 0 0 [] := ⟨rfl, Nat.le_refl _, Nat.zero_le _, fun h => absurd h (by omega)⟩
theorem TysV.at_ (h : TysV w B A m cp l) (hm : 0 < m) : ∃ b off, A = some ⟨b, off, none⟩ ∧ b < B ∧ ∀ i (h : i < l.length), TyAt w B l[i] b (off + i * 5) := by
  obtain ⟨b, off, e, hb, hr⟩ := h.2.2.2 hm
  exact ⟨b, off, e, hb, hr.get⟩
end
/-- the five cells of a type, as a value -/
def TyV (w : World) (B : Nat) (x : Value) (t : TyD) : Prop := ∃ A m cp, x = .agg #[.int .u8 t.k, .int .i64 t.n, .int .i64 t.v, .int .u8 t.c, .slice A m cp] ∧ TysV w B A m cp t.l

/-- how many nodes -/
def nodes : TyD → Nat
  | .mk _ _ _ _ l => 1 + nodesL l
where nodesL : List TyD → Nat
  | [] => 0
  | t :: r => nodes t + nodesL r
theorem nodes_eq (t : TyD) : nodes t = 1 + nodes.nodesL t.l := by cases t; rw [nodes]; rfl
theorem nodesL_snoc (l : List TyD) (t : TyD) : nodes.nodesL (l ++ [t]) = nodes.nodesL l + nodes t := by
  induction l with
  | nil => simp [nodes.nodesL]
  | cons x l ih => simp only [List.cons_append, nodes.nodesL, ih]; omega
theorem nodes_mem {l : List TyD} {t : TyD} (h : t ∈ l) : nodes t ≤ nodes.nodesL l := by
  induction l with
  | nil => simp at h
  | cons x l ih =>
    rw [nodes.nodesL]
    rcases List.mem_cons.1 h with rfl | h
    · omega
    · have := ih h; omega
theorem nodes_get {t : TyD} {i : Nat} (h : i < t.l.length) : nodes t.l[i] < nodes t := by
  have := nodes_mem (List.getElem_mem h)
  rw [nodes_eq t]
  omega

end Go.Proofs.YtidamlkekgnhgaaDoor
