/- The solver's whole state, and what raise and put do to it. -/
import Derived.Test.YthabkpkgocafoaaLeastM
import Derived.Test.YthabkpkgocafoaaLeastP
import Derived.Test.YthabkpkgocafoaaLeastA
namespace Go.Proofs.Ythabkpkgocafoaa
set_option linter.unusedVariables false
set_option linter.unusedSimpArgs false
open Go.RowKit Go.Conc

/-- where all lies -/
structure Place where
  g : Nat
  F : Nat
  I : Nat
  Y : Nat
  gw : Nat
  W : Nat
  gt : Nat
  C : Nat
  B : Nat
  base : Nat
  n : Nat
  Al : Option Addr
  nl : Nat
  cl : Nat
  lowV : Value
  ci : Nat
  cy : Nat
  cf : Nat
structure Place.ok (p : Place) : Prop where
  nd : [p.g, p.F, p.I, p.Y, p.gw, p.W, p.gt, p.C].Nodup
  lt : ∀ b ∈ [p.g, p.F, p.I, p.Y, p.gw, p.W, p.gt, p.C], p.B ≤ b ∧ b < p.base
  n20 : p.n ≤ 1048576
  ci : p.n ≤ p.ci
  ci2 : p.ci ≤ maxLen
  B : p.B ≤ p.base

structure RunSt (p : Place) (w0 w : World) (xs : List IneqD) (low is why : List Int) (vs : List Value) (fr : Nat → List Int) (flags : List Bool) (q : List Int) : Prop where
  ok : p.ok
  s0 : w.cell? ⟨p.g, 0, none⟩ = some (.slice p.Al p.nl p.cl)
  s2 : w.cell? ⟨p.g, 2, none⟩ = some (.slice (some ⟨p.I, 0, none⟩) p.n p.ci)
  s3 : w.cell? ⟨p.g, 3, none⟩ = some (.slice (some ⟨p.Y, 0, none⟩) p.n p.cy)
  s4 : w.cell? ⟨p.g, 4, none⟩ = some (.slice (some ⟨p.F, 0, none⟩) p.n p.cf)
  size : p.base ≤ w.heap.size
  xsM : IneqsV w p.B p.Al p.nl p.cl xs
  lowl : low.length = p.n
  rI : RowC w p.I 27 .u8 is
  rY : RowC w p.Y 3 .i64 why
  vl : vs.length = p.n
  frm : FromM w p.F p.base vs fr
  qs : QSt w p.gw p.W p.gt p.C p.n flags q
  inv : InvL xs low is why
  over : ∀ x ∈ xs, OverL p.n x
  off : Off [p.I, p.Y, p.F, p.W, p.C] w0 w

theorem cell_off {S : List Nat} {w w' : World} (h : Off S w w') {b i : Nat} {v : Value} (hc : w.cell? ⟨b, i, none⟩ = some v) (hb : b ∉ S) : w'.cell? ⟨b, i, none⟩ = some v :=
  (World.cell?_of_block (h.block b (block_lt_of_cell hc) hb)).trans hc

theorem QSt.off {S : List Nat} {w w' : World} {gw W gt C n : Nat} {flags : List Bool} {q : List Int} (h : QSt w gw W gt C n flags q) (ho : Off S w w') (h1 : gw ∉ S) (h2 : W ∉ S) (h3 : gt ∉ S) (h4 : C ∉ S) : QSt w' gw W gt C n flags q := by
  obtain ⟨a, b, c, d, s, r, e⟩ := h
  exact ⟨a, b.off ho h1, c.off ho h2, d.off ho h3, s, r, by rw [ho.block C (Array.getElem?_eq_some_iff.1 e).1 h4]; exact e⟩

section
variable {p : Place} {w0 w w' : World} {xs : List IneqD} {low is why : List Int} {vs : List Value} {fr : Nat → List Int} {flags : List Bool} {q : List Int}
theorem Place.ok.off (h : p.ok) : (p.g ∉ [p.I, p.Y] ∧ p.F ∉ [p.I, p.Y] ∧ p.gw ∉ [p.I, p.Y] ∧ p.W ∉ [p.I, p.Y] ∧ p.gt ∉ [p.I, p.Y] ∧ p.C ∉ [p.I, p.Y] ∧ p.I ≠ p.Y) ∧ (p.g ∉ [p.W, p.C] ∧ p.F ∉ [p.W, p.C] ∧ p.I ∉ [p.W, p.C] ∧ p.Y ∉ [p.W, p.C]) := by
  have := h.nd
  simp only [List.nodup_cons, List.mem_cons, List.not_mem_nil, or_false, not_or] at this
  simp only [List.mem_cons, List.not_mem_nil, or_false, not_or]
  obtain ⟨⟨a1, a2, a3, a4, a5, a6, a7⟩, ⟨b1, b2, b3, b4, b5, b6⟩, ⟨c1, c2, c3, c4, c5⟩, ⟨d1, d2, d3, d4⟩, ⟨e1, e2, e3⟩, ⟨f1, f2⟩, g1, _⟩ := this
  exact ⟨⟨⟨a2, a3⟩, ⟨b1, b2⟩, ⟨Ne.symm c2, Ne.symm d1⟩, ⟨Ne.symm c3, Ne.symm d2⟩, ⟨Ne.symm c4, Ne.symm d3⟩, ⟨Ne.symm c5, Ne.symm d4⟩, c1⟩, ⟨a5, a7⟩, ⟨b4, b6⟩, ⟨c3, c5⟩, d2, d4⟩

/-- fresh blocks alone -/
theorem RunSt.below (h : RunSt p w0 w xs low is why vs fr flags q) (hb : Below w.heap.size w w') : RunSt p w0 w' xs low is why vs fr flags q := by
  have ho : Off [] w w' := Off.of_below hb
  have n0 : ∀ b : Nat, b ∉ ([] : List Nat) := fun b => by simp
  exact ⟨h.ok, cell_off ho h.s0 (n0 _), cell_off ho h.s2 (n0 _), cell_off ho h.s3 (n0 _), cell_off ho h.s4 (n0 _), Nat.le_trans h.size hb.size, h.xsM.below (hb.mono (Nat.le_trans h.ok.B h.size)), h.lowl, h.rI.off ho (n0 _), h.rY.off ho (n0 _), h.vl, h.frm.off ho (n0 _) (fun s hs => by cases hs), h.qs.off ho (n0 _) (n0 _) (n0 _) (n0 _), h.inv, h.over, h.off.trans (ho.mono (by simp))⟩
theorem RunSt.il (h : RunSt p w0 w xs low is why vs fr flags q) : is.length = p.n := h.inv.il.trans h.lowl
theorem RunSt.lt (h : RunSt p w0 w xs low is why vs fr flags q) {b : Nat} (hb : b ∈ [p.g, p.F, p.I, p.Y, p.gw, p.W, p.gt, p.C]) : b < w.heap.size := Nat.lt_of_lt_of_le (h.ok.lt b hb).2 h.size

theorem RunSt.raised (h : RunSt p w0 w xs low is why vs fr flags q) {i : Nat} {x : IneqD} (hi : xs[i]? = some x) (hy : raiseB is x = true) (ho : Off [p.I, p.Y] w w') (h1 : RowC w' p.I 27 .u8 (is.set x.r.toNat (leftL is x))) (h2 : RowC w' p.Y 3 .i64 (why.set x.r.toNat i)) :
    RunSt p w0 w' xs low (is.set x.r.toNat (leftL is x)) (why.set x.r.toNat i) vs fr flags q := by
  obtain ⟨⟨a1, a2, a3, a4, a5, a6, _⟩, _⟩ := Place.ok.off h.ok
  have hB : ∀ s ∈ [p.I, p.Y], p.B ≤ s ∧ s < p.base := fun s hs => h.ok.lt s (by simp only [List.mem_cons, List.not_mem_nil, or_false] at hs ⊢; rcases hs with e | e <;> simp [e])
  exact ⟨h.ok, cell_off ho h.s0 a1, cell_off ho h.s2 a1, cell_off ho h.s3 a1, cell_off ho h.s4 a1, Nat.le_trans h.size ho.size, h.xsM.below (ho.below (fun s hs => (hB s hs).1) (Nat.le_trans h.ok.B h.size)), h.lowl, h1, h2, h.vl, h.frm.off ho a2 (fun s hs => (hB s hs).2), h.qs.off ho a3 a4 a5 a6, h.inv.raise hi (by rw [h.lowl]; exact h.over x (List.mem_of_getElem? hi)) hy, h.over, h.off.trans (ho.mono (by simp))⟩

theorem RunSt.queued (h : RunSt p w0 w xs low is why vs fr flags q) {flags' : List Bool} {q' : List Int} (ho : Off [p.W, p.C] w w') (hq : QSt w' p.gw p.W p.gt p.C p.n flags' q') :
    RunSt p w0 w' xs low is why vs fr flags' q' := by
  obtain ⟨_, a1, a2, a3, a4⟩ := Place.ok.off h.ok
  have hB : ∀ s ∈ [p.W, p.C], p.B ≤ s ∧ s < p.base := fun s hs => h.ok.lt s (by simp only [List.mem_cons, List.not_mem_nil, or_false] at hs ⊢; rcases hs with e | e <;> simp [e])
  exact ⟨h.ok, cell_off ho h.s0 a1, cell_off ho h.s2 a1, cell_off ho h.s3 a1, cell_off ho h.s4 a1, Nat.le_trans h.size ho.size, h.xsM.below (ho.below (fun s hs => (hB s hs).1) (Nat.le_trans h.ok.B h.size)), h.lowl, h.rI.off ho a3, h.rY.off ho a4, h.vl, h.frm.off ho a2 (fun s hs => (hB s hs).2), hq, h.inv, h.over, h.off.trans (ho.mono (by simp))⟩

theorem raise_run (h : RunSt p w0 w xs low is why vs fr flags q) {i : Nat} {x : IneqD} (hi : xs[i]? = some x) (b : Bool) (hb : raiseB is x = b) :
    Calls Try.prog 65 #[.pointer (some ⟨p.g, 0, none⟩), .int .i64 i] w fun e w' => e = .returned (.bool b) ∧ ∃ is' why', RunSt p w0 w' xs low is' why' vs fr flags q ∧ (is' = if b = true then is.set x.r.toNat (leftL is x) else is) ∧ Off [p.I, p.Y] w w' := by
  have hx := h.over x (List.mem_of_getElem? hi)
  have hg : p.g < w.heap.size := h.lt (by simp)
  have hxs : IneqsV w w.heap.size p.Al p.nl p.cl xs := h.xsM.more (Nat.le_trans h.ok.B h.size)
  cases b with
  | false =>
    refine (raise_no p.g p.Al p.nl p.cl xs p.I p.n p.ci is i x w h.s0 h.s2 hxs (h.rI.rd h.il h.ok.ci h.ok.ci2) hg hi hx.lv hx.r hb).mono ?_
    rintro e w' ⟨rfl, hbel⟩
    exact ⟨rfl, is, why, h.below hbel, rfl, Off.of_below hbel⟩
  | true =>
    have hr0 := ((raiseB_iff _ _).1 hb).1
    obtain ⟨⟨a1, _, _, _, _, _, a7⟩, _⟩ := Place.ok.off h.ok
    have hraised := @RunSt.raised p w0 w
    obtain ⟨lv, lc, c, r⟩ := x
    dsimp only at hr0
    obtain ⟨k, rfl⟩ : ∃ k : Nat, r = (k : Int) := ⟨r.toNat, (Int.toNat_of_nonneg hr0).symm⟩
    refine (raise_yes p.g p.Al p.nl p.cl xs p.I p.Y p.n p.ci p.cy is why i k lv lc c w h.s0 h.s2 h.s3 hxs h.rI h.rY h.il (h.inv.wl.trans h.lowl) h.ok.ci h.ok.ci2 a7 (fun e => a1 (by simp [e])) (fun e => a1 (by simp [e])) hg hi hx.lv (by have := hx.r; dsimp only at this; omega) hb).mono ?_
    rintro e w' ⟨rfl, hI, hY, ho⟩
    exact ⟨rfl, _, _, hraised h hi hb ho hI hY, rfl, ho⟩
end

end Go.Proofs.Ythabkpkgocafoaa
