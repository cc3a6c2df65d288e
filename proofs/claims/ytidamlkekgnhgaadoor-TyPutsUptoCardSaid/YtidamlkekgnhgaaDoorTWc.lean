/- Texts of this claim, laid one behind the other: Cel, TyCel, TvI, TvJ, OrdB, TvK. -/
import Derived.Test.YtidamlkekgnhgaaDoorMem
import Derived.Test.YtidamlkekgnhgaaDoorTyI
import Derived.Test.YtidamlkekgnhgaaDoorTWb
import Derived.Test.YtidamlkekgnhgaaDoorOrd
/- Trees in memory, whatever their type: a cell holds a plain value, or a slice of cells. Reading, keeping, and rows of the call's own that grow. No program's function. -/
namespace Go.Proofs.YtidamlkekgnhgaaDoor
set_option linter.unusedVariables false
set_option linter.unusedSimpArgs false
open Go.RowKit

/-- what a cell holds: a plain value, or a slice whose elements are of k cells each, all its cells in a row -/
inductive Cel where
  | v (x : Value)
  | s (k : Nat) (l : List Cel)
instance : Inhabited Cel := ⟨.v (.bool false)⟩
mutual
def CelIn (w : World) (S : Nat → Prop) : Cel → Value → Prop
  | .v x, u => u = x
  | .s k l, u => ∃ A m cp, u = .slice A m cp ∧ l.length = m * k ∧ m ≤ cp ∧ cp ≤ maxLen ∧ (0 < m → ∃ b off, A = some ⟨b, off, none⟩ ∧ S b ∧ CelsIn w S l b off)
def CelsIn (w : World) (S : Nat → Prop) : List Cel → Nat → Nat → Prop
  | [], _, _ => True
  | c :: r, b, off => (∃ u, w.cell? ⟨b, off, none⟩ = some u ∧ CelIn w S c u) ∧ CelsIn w S r b (off + 1)
end
section
variable {w w' : World} {S S' : Nat → Prop}
theorem celIn_v {x u : Value} : CelIn w S (.v x) u ↔ u = x := by rw [CelIn]
theorem celIn_s {k : Nat} {l : List Cel} {u : Value} : CelIn w S (.s k l) u ↔ ∃ A m cp, u = .slice A m cp ∧ l.length = m * k ∧ m ≤ cp ∧ cp ≤ maxLen ∧ (0 < m → ∃ b off, A = some ⟨b, off, none⟩ ∧ S b ∧ CelsIn w S l b off) := by rw [CelIn]
theorem celsIn_cons {c : Cel} {r : List Cel} {b off : Nat} : CelsIn w S (c :: r) b off ↔ (∃ u, w.cell? ⟨b, off, none⟩ = some u ∧ CelIn w S c u) ∧ CelsIn w S r b (off + 1) := by rw [CelsIn]
theorem celsIn_nil {b off : Nat} : CelsIn w S [] b off := by rw [CelsIn]; trivial
mutual
theorem CelIn.keep (hS : ∀ b, S b → S' b) (hk : ∀ p : Addr, S p.block → w'.cell? p = w.cell? p) : ∀ (c : Cel) (u : Value), CelIn w S c u → CelIn w' S' c u
  | .v x, u, h => by rw [celIn_v] at h ⊢; exact h
  | .s k l, u, h => by
    rw [celIn_s] at h ⊢
    obtain ⟨A, m, cp, e0, e1, e2, e3, e4⟩ := h
    refine ⟨A, m, cp, e0, e1, e2, e3, fun hm => ?_⟩
    obtain ⟨b, off, e, hb, hr⟩ := e4 hm
    exact ⟨b, off, e, hS _ hb, CelsIn.keep hS hk l b off hb hr⟩
theorem CelsIn.keep (hS : ∀ b, S b → S' b) (hk : ∀ p : Addr, S p.block → w'.cell? p = w.cell? p) : ∀ (l : List Cel) (b off : Nat), S b → CelsIn w S l b off → CelsIn w' S' l b off
  | [], _, _, _, _ => celsIn_nil
  | c :: r, b, off, hb, h => by
    rw [celsIn_cons] at h ⊢
    obtain ⟨⟨u, hu, hc⟩, hr⟩ := h
    exact ⟨⟨u, (hk _ hb).trans hu, CelIn.keep hS hk c u hc⟩, CelsIn.keep hS hk r b (off + 1) hb hr⟩
end
theorem CelIn.mono {c : Cel} {u : Value} (h : CelIn w S c u) (hS : ∀ b, S b → S' b) : CelIn w S' c u := CelIn.keep hS (fun _ _ => rfl) c u h
theorem CelsIn.get : ∀ {l : List Cel} {b off : Nat}, CelsIn w S l b off → ∀ (i : Nat) {c : Cel}, l[i]? = some c → ∃ u, w.cell? ⟨b, off + i, none⟩ = some u ∧ CelIn w S c u
  | [], _, _, _, i, c, h => by simp at h
  | x :: r, b, off, h, 0, c, hc => by
    rw [celsIn_cons] at h
    obtain rfl : x = c := by simpa using hc
    exact h.1
  | x :: r, b, off, h, i + 1, c, hc => by
    rw [celsIn_cons] at h
    have := CelsIn.get h.2 i (by simpa using hc)
    rwa [show off + 1 + i = off + (i + 1) from by omega] at this
theorem CelsIn.of : ∀ {l : List Cel} {b off : Nat}, (∀ (i : Nat) (c : Cel), l[i]? = some c → ∃ u, w.cell? ⟨b, off + i, none⟩ = some u ∧ CelIn w S c u) → CelsIn w S l b off
  | [], _, _, _ => celsIn_nil
  | x :: r, b, off, h => by
    rw [celsIn_cons]
    refine ⟨h 0 x rfl, CelsIn.of fun i c hc => ?_⟩
    have := h (i + 1) c (by simpa using hc)
    rwa [show off + (i + 1) = off + 1 + i from by omega] at this
theorem CelsIn.append {a c : List Cel} {b off : Nat} : CelsIn w S (a ++ c) b off ↔ CelsIn w S a b off ∧ CelsIn w S c b (off + a.length) := by
  induction a generalizing off with
  | nil => simp [celsIn_nil]
  | cons x a ih =>
    rw [List.cons_append, celsIn_cons, celsIn_cons, ih, and_assoc, List.length_cons, show off + 1 + a.length = off + (a.length + 1) from by omega]
theorem CelsIn.row {X : Type} {enc : X → List Cel} {k : Nat} (hk : ∀ x, (enc x).length = k) : ∀ {xs : List X} {b off : Nat}, CelsIn w S (xs.flatMap enc) b off → ∀ i (h : i < xs.length), CelsIn w S (enc xs[i]) b (off + i * k)
  | x :: xs, b, off, h, 0, _ => by
    rw [List.flatMap_cons, CelsIn.append] at h
    rw [Nat.zero_mul, Nat.add_zero]
    exact h.1
  | x :: xs, b, off, h, i + 1, hi => by
    rw [List.flatMap_cons, CelsIn.append, hk] at h
    have := CelsIn.row hk h.2 i (by simpa using hi)
    rw [show off + (i + 1) * k = off + k + i * k from by rw [Nat.add_mul, Nat.one_mul]; omega]
    exact this
theorem flat_len {X : Type} {enc : X → List Cel} {k : Nat} (hk : ∀ x, (enc x).length = k) (xs : List X) : (xs.flatMap enc).length = xs.length * k := by
  induction xs with
  | nil => simp
  | cons x xs ih => rw [List.flatMap_cons, List.length_append, ih, hk, List.length_cons, Nat.add_mul, Nat.one_mul, Nat.add_comm]

/-- values that hold these -/
def CelsV (w : World) (S : Nat → Prop) : List Cel → List Value → Prop
  | [], [] => True
  | c :: r, u :: us => CelIn w S c u ∧ CelsV w S r us
  | _, _ => False
theorem CelsV.nil : CelsV w S [] [] := trivial
theorem CelsV.len : ∀ {l : List Cel} {us : List Value}, CelsV w S l us → us.length = l.length
  | [], [], _ => rfl
  | c :: r, u :: us, h => by rw [List.length_cons, List.length_cons, CelsV.len h.2]
  | [], _ :: _, h => h.elim
  | _ :: _, [], h => h.elim
theorem CelsV.append : ∀ {a b : List Cel} {us vs : List Value}, CelsV w S a us → CelsV w S b vs → CelsV w S (a ++ b) (us ++ vs)
  | [], b, [], vs, _, h => h
  | c :: r, b, u :: us, vs, h, h2 => ⟨h.1, CelsV.append h.2 h2⟩
  | [], _, _ :: _, _, h, _ => h.elim
  | _ :: _, _, [], _, h, _ => h.elim
theorem CelsV.keep (hS : ∀ b, S b → S' b) (hk : ∀ p : Addr, S p.block → w'.cell? p = w.cell? p) : ∀ {l : List Cel} {us : List Value}, CelsV w S l us → CelsV w' S' l us
  | [], [], _ => trivial
  | c :: r, u :: us, h => ⟨CelIn.keep hS hk c u h.1, CelsV.keep hS hk h.2⟩
  | [], _ :: _, h => h.elim
  | _ :: _, [], h => h.elim
theorem CelsV.get : ∀ {l : List Cel} {us : List Value}, CelsV w S l us → ∀ (i : Nat) {c : Cel}, l[i]? = some c → ∃ u, us[i]? = some u ∧ CelIn w S c u
  | [], [], _, i, c, hc => by simp at hc
  | x :: r, u :: us, h, 0, c, hc => by
    obtain rfl : x = c := by simpa using hc
    exact ⟨u, rfl, h.1⟩
  | x :: r, u :: us, h, i + 1, c, hc => by
    obtain ⟨v, h1, h2⟩ := CelsV.get h.2 i (by simpa using hc)
    exact ⟨v, by simpa using h1, h2⟩
  | [], _ :: _, h, _, _, _ => h.elim
  | _ :: _, [], h, _, _, _ => h.elim
theorem CelsV.in_ {l : List Cel} {us : List Value} {b off : Nat} (h : CelsV w S l us) (hc : ∀ (j : Nat) (u : Value), us[j]? = some u → w.cell? ⟨b, off + j, none⟩ = some u) : CelsIn w S l b off :=
  CelsIn.of fun i c hi => by
    obtain ⟨u, h1, h2⟩ := h.get i hi
    exact ⟨u, hc i u h1, h2⟩
theorem CelsIn.vals : ∀ {l : List Cel} {b off : Nat}, CelsIn w S l b off → ∃ us : List Value, CelsV w S l us ∧ ∀ (j : Nat) (u : Value), us[j]? = some u → w.cell? ⟨b, off + j, none⟩ = some u
  | [], b, off, _ => ⟨[], trivial, fun j u h => by simp at h⟩
  | c :: r, b, off, h => by
    rw [celsIn_cons] at h
    obtain ⟨⟨u, hu, hc⟩, hr⟩ := h
    obtain ⟨us, h1, h2⟩ := CelsIn.vals hr
    refine ⟨u :: us, ⟨hc, h1⟩, fun j v hj => ?_⟩
    cases j with
    | zero =>
      obtain rfl : u = v := by simpa using hj
      exact hu
    | succ j =>
      have := h2 j v (by simpa using hj)
      rwa [show off + 1 + j = off + (j + 1) from by omega] at this
end

/-- a slice of xs -/
def Sl {X : Type} (w : World) (S : Nat → Prop) (enc : X → List Cel) (k : Nat) (xs : List X) (A : Option Addr) (m cp : Nat) : Prop :=
  xs.length = m ∧ m ≤ cp ∧ cp ≤ maxLen ∧ (0 < m → ∃ b off, A = some ⟨b, off, none⟩ ∧ S b ∧ CelsIn w S (xs.flatMap enc) b off)
/-- below a block -/
abbrev Lt (B : Nat) : Nat → Prop := fun b => b < B
section
variable {X : Type} {w w' : World} {S S' : Nat → Prop} {enc : X → List Cel} {k : Nat} {xs : List X} {A : Option Addr} {m cp B : Nat}
theorem Sl.len (h : Sl w S enc k xs A m cp) : xs.length = m := h.1
theorem Sl.cap (h : Sl w S enc k xs A m cp) : m ≤ 9223372036854775807 := Nat.le_trans h.2.1 h.2.2.1
theorem Sl.nil : Sl w S enc k ([] : List X) none 0 0 := ⟨rfl, Nat.le_refl _, Nat.zero_le _, fun h => absurd h (by omega)⟩
theorem Sl.keep (h : Sl w S enc k xs A m cp) (hS : ∀ b, S b → S' b) (hk : ∀ p : Addr, S p.block → w'.cell? p = w.cell? p) : Sl w' S' enc k xs A m cp := by
  refine ⟨h.1, h.2.1, h.2.2.1, fun hm => ?_⟩
  obtain ⟨b, off, e, hb, hr⟩ := h.2.2.2 hm
  exact ⟨b, off, e, hS _ hb, CelsIn.keep hS hk _ b off hb hr⟩
theorem Sl.mono (h : Sl w S enc k xs A m cp) (hS : ∀ b, S b → S' b) : Sl w S' enc k xs A m cp := h.keep hS fun _ _ => rfl
theorem Sl.below (h : Sl w (Lt B) enc k xs A m cp) (hb : Below B w w') : Sl w' (Lt B) enc k xs A m cp := h.keep (fun _ h => h) fun _ hp => hb.cell hp
theorem Sl.fresh (h : Sl w (Lt w.heap.size) enc k xs A m cp) (hb : Below w.heap.size w w') : Sl w' (Lt w'.heap.size) enc k xs A m cp := h.keep (fun _ h => Nat.lt_of_lt_of_le h hb.size) fun _ hp => hb.cell hp
theorem Sl.at_ (hk : ∀ x, (enc x).length = k) (h : Sl w S enc k xs A m cp) (hm : 0 < m) : ∃ b off, A = some ⟨b, off, none⟩ ∧ S b ∧ ∀ i (h : i < xs.length), CelsIn w S (enc xs[i]) b (off + i * k) := by
  obtain ⟨b, off, e, hb, hr⟩ := h.2.2.2 hm
  exact ⟨b, off, e, hb, CelsIn.row hk hr⟩
theorem sl_iff (hk : ∀ x, (enc x).length = k) (hk0 : 0 < k) {u : Value} : CelIn w S (.s k (xs.flatMap enc)) u ↔ ∃ A m cp, u = .slice A m cp ∧ Sl w S enc k xs A m cp := by
  rw [celIn_s]
  refine ⟨fun ⟨A, m, cp, e0, e1, e2, e3, e4⟩ => ⟨A, m, cp, e0, ?_, e2, e3, e4⟩, fun ⟨A, m, cp, e0, e1, e2, e3, e4⟩ => ⟨A, m, cp, e0, ?_, e2, e3, e4⟩⟩
  · rw [flat_len hk] at e1
    exact Nat.eq_of_mul_eq_mul_right hk0 e1
  · rw [flat_len hk, e1]
end

/-- a row of the call's own, of n elements of k cells; what is within lies in blocks that are there, none of them the row's own, none in R -/
def OwnC (w : World) (base : Nat) (e : TypeId) (k : Nat) (R : Nat → Prop) (v : Value) (n : Nat) (l : List Cel) : Prop :=
  l.length = n * k ∧ ∃ cs, w.ownsRow base e k v n cs ∧ CelsV w (fun b => b < w.heap.size ∧ some b ≠ v.ownBlock ∧ ¬ R b) l cs
section
variable {w w' : World} {base : Nat} {e : TypeId} {k : Nat} {R R' : Nat → Prop} {v : Value} {n : Nat} {l : List Cel}
theorem OwnC.form (h : OwnC w base e k R v n l) : ∃ A c, v = .slice A n c := by
  obtain ⟨_, cs, h1, _⟩ := h
  exact ownsRow_form h1
theorem OwnC.lt (h : OwnC w base e k R v n l) (g : Nat) (hg : v.ownBlock = some g) : base ≤ g ∧ g < w.heap.size := by
  obtain ⟨_, cs, h1, _⟩ := h
  exact h1.lt g hg
theorem OwnC.nil : OwnC w base e k R (.slice none 0 0) 0 [] := ⟨by simp, [], World.ownsRow_nil _ _ _ _, trivial⟩
theorem OwnC.beyond (h : OwnC w base e k R v n l) (hb : Below w.heap.size w w') : OwnC w' base e k R v n l := by
  obtain ⟨h0, cs, h1, h2⟩ := h
  exact ⟨h0, cs, ownsRow_beyond h1 hb, h2.keep (fun b h => ⟨Nat.lt_of_lt_of_le h.1 hb.size, h.2⟩) fun p hp => hb.cell hp.1⟩
theorem OwnC.set (h : OwnC w base e k R v n l) {p : Addr} (hp : p.block < base) (hR : R p.block) (u : Value) : OwnC (w.setCell p u) base e k R v n l := by
  obtain ⟨h0, cs, h1, h2⟩ := h
  refine ⟨h0, cs, ownsRow_setCell_below h1 hp u, h2.keep (fun b h => by rw [World.size_setCell]; exact h) fun q hq => ?_⟩
  exact World.cell?_setCell_other _ _ _ _ (fun e => hq.2.2 (by rw [← e]; exact hR))
theorem OwnC.less (h : OwnC w base e k R v n l) (hR : ∀ b, R' b → R b) : OwnC w base e k R' v n l := by
  obtain ⟨h0, cs, h1, h2⟩ := h
  exact ⟨h0, cs, h1, h2.keep (fun b h => ⟨h.1, h.2.1, fun h3 => h.2.2 (hR b h3)⟩) fun _ _ => rfl⟩
theorem OwnC.low (h : OwnC w base e k R v n l) {base' : Nat} (hb : base' ≤ base) : OwnC w base' e k R v n l := by
  obtain ⟨h0, cs, h1, h2⟩ := h
  refine ⟨h0, cs, ?_, h2⟩
  rcases h1.2 with h3 | ⟨g, cap, cur, e0, hg, h3⟩
  · exact ⟨h1.1, .inl h3⟩
  · exact ⟨h1.1, .inr ⟨g, cap, cur, e0, Nat.le_trans hb hg, h3⟩⟩
/-- read as a slice -/
theorem OwnC.cel (h : OwnC w base e k R v n l) (hR : ∀ b, R' b → R b) (hb : ∀ b, base ≤ b → ¬ R' b) : CelIn w (fun b => b < w.heap.size ∧ ¬ R' b) (.s k l) v := by
  obtain ⟨h0, cs, h1, h2⟩ := h
  have h3 : CelsV w (fun b => b < w.heap.size ∧ ¬ R' b) l cs := h2.keep (fun b h => ⟨h.1, fun h3 => h.2.2 (hR b h3)⟩) fun _ _ => rfl
  rw [celIn_s]
  rcases h1.2 with ⟨e0, hn⟩ | ⟨g, cap, cur, e0, hg, hblk, hn, hm, hs, ht⟩
  · exact ⟨none, 0, 0, e0, by rw [h0, hn], Nat.le_refl _, Nat.zero_le _, fun h => absurd h (by omega)⟩
  · refine ⟨some ⟨g, 0, none⟩, n, cap, e0, h0, hn, hm, fun _ => ⟨g, 0, rfl, ⟨(Array.getElem?_eq_some_iff.1 hblk).1, hb g hg⟩, h3.in_ fun j u hu => ?_⟩⟩
    subst e0
    have := h1.cells (g := g) rfl j u hu
    rwa [show (Addr.add ⟨g, 0, none⟩ j) = ⟨g, 0 + j, none⟩ from by unfold Addr.add; split <;> simp_all] at this
theorem OwnC.sl {X : Type} {enc : X → List Cel} {xs : List X} {A : Option Addr} {c : Nat} (hk : ∀ x, (enc x).length = k) (hk0 : 0 < k) (h : OwnC w base e k R (.slice A n c) n (xs.flatMap enc)) : Sl w (Lt w.heap.size) enc k xs A n c := by
  have h2 := (h.cel (R' := fun _ => False) (fun _ h => h.elim) (fun _ _ h => h)).mono (S' := Lt w.heap.size) fun b hb => hb.1
  obtain ⟨A', m', c', e, h3⟩ := (sl_iff hk hk0).1 h2
  injection e with e1 e2 e3
  subst e1; subst e2; subst e3
  exact h3
variable {P : Program}
/-- append of one element, just laid, to a row of the call's own -/
theorem wpList_append_cel {ops : Array Oper} {rest : List Oper} {o : Oper} {a : Act} {Q : Exit → Act → World → Prop} {B0 : Nat} (w0 w : World) (hgd : o.guard = none) (s x : Operand) (t : TypeId)
    (ho : o.op = .call { callee := .builtin .append, args := #[s, x], argTypes := #[t, t] })
    (base : Nat) (e : TypeId) (i : TypeInfo) (z : Value) (k bytes : Nat) (ht : P.underlying t = some (.slice e)) (hi : P.info? e = some i) (hz : i.zero = some z)
    (hsize : i.size = k) (hby : i.bytes = bytes) (hzs : z.cells.size = k) (hsz : 0 < k) (R : Nat → Prop)
    (v : Value) (n : Nat) (l : List Cel) (hs : a.eval s = v) (cs : List Value) (c : List Cel) (hcs : cs.length = k) (h1 : ∀ u ∈ cs, u.oneCell' = true) (hx : a.eval x = .slice (some ⟨w.heap.size, 0, none⟩) 1 1)
    (hown : OwnC w base e k R v n l) (hc : CelsV w (fun b => b < w.heap.size ∧ some b ≠ v.ownBlock ∧ ¬ R b) c cs) (h63 : n + 1 ≤ maxLen) (hbytes : (n + 1) * bytes ≤ 140737488355328) (hbel : Below B0 w0 w) (hB0 : B0 ≤ base) (hbase : base ≤ w.heap.size)
    (h : ∀ A' c' w', OwnC w' base e k R (.slice A' (n + 1) c') (n + 1) (l ++ c) → Below B0 w0 w' → w.grownBy w' v.ownBlock → w.heap.size ≤ w'.heap.size → ((Value.slice A' (n + 1) c').ownBlock = v.ownBlock ∨ (Value.slice A' (n + 1) c').ownBlock = some (w.heap.size + 1)) → wpList P ops Q rest (a.put o.dst (.slice A' (n + 1) c')) w') :
    wpList P ops Q (o :: rest) a (w.alloc (Obj.cells cs.toArray e)) := by
  obtain ⟨hl, cs0, hown0, hv0⟩ := hown
  have hrd : Rd (w.alloc (Obj.cells cs.toArray e)) (w.heap.size + 1) k (some ⟨w.heap.size, 0, none⟩) 1 cs :=
    ⟨by rw [hcs, Nat.one_mul], fun _ => ⟨w.heap.size, 0, rfl, Nat.lt_succ_self _, fun j u hu => by rw [Nat.zero_add, World.cell?_alloc_new]; simpa using hu⟩⟩
  refine wpList_append_rd (w.alloc (Obj.cells cs.toArray e)) hgd s x t ho base e i z k bytes ht hi hz hsize hby hzs hsz v n cs0 hs (hown0.alloc _) (w.heap.size + 1) _ 1 1 cs hx hrd h1 h63 hbytes (by rw [World.size_alloc]; omega) fun v' w' h2 h3 h4 => ?_
  obtain ⟨A', c', rfl⟩ := ownsRow_form h2
  have hg : w.grownBy w' v.ownBlock := ⟨h3.os, h3.tape, h3.output, Nat.le_trans (by rw [World.size_alloc]; omega) h3.size, fun k hk hne => (h3.block k (by rw [World.size_alloc]; omega) hne).trans (Below.heap_alloc w _ k hk)⟩
  rw [World.size_alloc] at h4
  have hne : ∀ b, b < w.heap.size → some b ≠ v.ownBlock → some b ≠ (Value.slice A' (n + 1) c').ownBlock := fun b hb hn e => by
    rcases h4 with h4 | h4
    · exact hn (by rw [e, h4])
    · rw [h4] at e
      injection e with e
      omega
  have hkk : ∀ p : Addr, (p.block < w.heap.size ∧ some p.block ≠ v.ownBlock ∧ ¬ R p.block) → w'.cell? p = w.cell? p := fun p hp => World.cell?_of_block (hg.block p.block hp.1 hp.2.1)
  refine h A' c' w' ⟨?_, cs0 ++ cs, h2, ?_⟩ ?_ hg hg.size h4
  · have := hc.len
    rw [List.length_append, hl, Nat.add_mul, Nat.one_mul]
    omega
  · refine CelsV.keep (fun b hb => ⟨Nat.lt_of_lt_of_le hb.1 hg.size, hne b hb.1 hb.2.1, hb.2.2⟩) hkk (hv0.append hc)
  · have hb2 : Below base w0 w' → Below B0 w0 w' := fun h => h.mono hB0
    refine ⟨h3.os.trans hbel.os, h3.tape.trans hbel.tape, h3.output.trans hbel.output, Nat.le_trans hbel.size hg.size, fun b hb => ?_⟩
    have hbw : b < w.heap.size := by omega
    refine (hg.block b hbw fun e => ?_).trans (hbel.block b hb)
    have := (hown0.lt b e.symm).1
    omega
end
end Go.Proofs.YtidamlkekgnhgaaDoor

/- Types as cells: the bridge to trees of any type. -/
namespace Go.Proofs.YtidamlkekgnhgaaDoor
set_option linter.unusedVariables false
set_option linter.unusedSimpArgs false
open Go.RowKit

def encT : TyD → List Cel
  | .mk k n v c l => [.v (.int .u8 k), .v (.int .i64 n), .v (.int .i64 v), .v (.int .u8 c), .s 5 (encL l)]
where encL : List TyD → List Cel
  | [] => []
  | t :: r => encT t ++ encL r
theorem encL_flat (l : List TyD) : encT.encL l = l.flatMap encT := by
  induction l with
  | nil => rfl
  | cons t r ih => rw [encT.encL, ih, List.flatMap_cons]
theorem encT_eq (t : TyD) : encT t = [.v (.int .u8 t.k), .v (.int .i64 t.n), .v (.int .i64 t.v), .v (.int .u8 t.c), .s 5 (t.l.flatMap encT)] := by
  cases t; rw [encT, encL_flat]; rfl
theorem encT_len (t : TyD) : (encT t).length = 5 := by rw [encT_eq]; rfl
theorem encL_len (l : List TyD) : (encT.encL l).length = l.length * 5 := by rw [encL_flat, flat_len encT_len]
mutual
theorem tyIn_cels {w : World} {S : Nat → Prop} : ∀ (t : TyD) (b off : Nat), TyIn w S t b off ↔ CelsIn w S (encT t) b off
  | .mk k n v c l, b, off => by
    rw [TyIn, encT]
    simp only [celsIn_cons, celIn_v, celIn_s, encL_len, celsIn_nil, and_true]
    have h := fun b' off' => rowIn_cels (w := w) (S := S) l b' off'
    have e : ∀ m : Nat, l.length * 5 = m * 5 ↔ l.length = m := fun m => by omega
    simp only [h, e]
    constructor
    · rintro ⟨h0, h1, h2, h3, A, m, cp, h4, h5⟩
      exact ⟨⟨_, h0, rfl⟩, ⟨_, h1, rfl⟩, ⟨_, h2, rfl⟩, ⟨_, h3, rfl⟩, _, h4, A, m, cp, rfl, h5⟩
    · rintro ⟨⟨_, h0, rfl⟩, ⟨_, h1, rfl⟩, ⟨_, h2, rfl⟩, ⟨_, h3, rfl⟩, _, h4, A, m, cp, rfl, h5⟩
      exact ⟨h0, h1, h2, h3, A, m, cp, h4, h5⟩
theorem rowIn_cels {w : World} {S : Nat → Prop} : ∀ (l : List TyD) (b off : Nat), RowIn w S l b off ↔ CelsIn w S (encT.encL l) b off
  | [], _, _ => by rw [RowIn, encT.encL]; exact ⟨fun _ => celsIn_nil, fun _ => trivial⟩
  | t :: r, b, off => by
    rw [RowIn, encT.encL, CelsIn.append, encT_len, tyIn_cels t b off, rowIn_cels r b (off + 5)]
end
theorem tysS_sl {w : World} {S : Nat → Prop} {A : Option Addr} {m cp : Nat} {l : List TyD} : TysS w S A m cp l ↔ Sl w S encT 5 l A m cp := by
  unfold TysS Sl
  simp only [rowIn_cels, encL_flat]
theorem tysV_sl {w : World} {B : Nat} {A : Option Addr} {m cp : Nat} {l : List TyD} : TysV w B A m cp l ↔ Sl w (Lt B) encT 5 l A m cp := by
  rw [← tysS_lt, tysS_sl]
/-- five values that are a type -/
theorem tyC {w : World} {S : Nat → Prop} {t : TyD} {A : Option Addr} {m cp : Nat} (h : TysS w S A m cp t.l) : CelsV w S (encT t) [.int .u8 t.k, .int .i64 t.n, .int .i64 t.v, .int .u8 t.c, .slice A m cp] := by
  rw [encT_eq]
  exact ⟨celIn_v.2 rfl, celIn_v.2 rfl, celIn_v.2 rfl, celIn_v.2 rfl, (sl_iff encT_len (by omega)).2 ⟨A, m, cp, rfl, tysS_sl.1 h⟩, trivial⟩
end Go.Proofs.YtidamlkekgnhgaaDoor

/- The law's closures that turn variables back; Mus as cells. -/
namespace Go.Proofs.YtidamlkekgnhgaaDoor
set_option linter.unusedVariables false
set_option linter.unusedSimpArgs false
open Go.RowKit

def encM (x : Int × Int) : List Cel := [.v (.int .i64 x.1), .v (.int .u8 x.2)]
theorem encM_len (x : Int × Int) : (encM x).length = 2 := rfl
theorem musV_sl {w : World} {B : Nat} {A : Option Addr} {n c : Nat} {ms : List (Int × Int)} (h : Sl w (Lt B) encM 2 ms A n c) : MusV w B A n c ms := by
  refine ⟨h.1, h.2.1, h.2.2.1, fun hn => ?_⟩
  obtain ⟨b, off, e, hb, hc⟩ := h.at_ encM_len hn
  refine ⟨b, off, e, hb, fun i hi => ?_⟩
  have h2 := hc i hi
  unfold encM at h2
  simp only [celsIn_cons, celIn_v] at h2
  obtain ⟨⟨_, h0, rfl⟩, ⟨_, h1, rfl⟩, _⟩ := h2
  exact ⟨h0, h1⟩
theorem tysS_none {w w' : World} {S : Nat → Prop} {B : Nat} {A : Option Addr} {m cp : Nat} (h : TysV w B A m cp []) : TysS w' S A m cp [] := by
  have hm : m = 0 := h.1.symm
  exact ⟨h.1, h.2.1, h.2.2.1, fun h0 => absurd h0 (by omega)⟩
theorem muInfo : (Tryd.prog.info? 24).map (fun i => (i.zero, i.size, i.bytes)) = some (some (.agg #[.int .i64 0, .int .u8 0]), 2, 16) := by kernel_rfl
theorem OwnC.tys {w : World} {base : Nat} {e : TypeId} {R : Nat → Prop} {A : Option Addr} {n c : Nat} {ts : List TyD} (h : OwnC w base e 5 R (.slice A n c) n (ts.flatMap encT)) : TysV w w.heap.size A n c ts := tysV_sl.2 (h.sl encT_len (by omega))
set_option maxRecDepth 100000 in
set_option maxHeartbeats 4000000 in
theorem canons1_any (s : Int) (h0 : 0 ≤ s) (h5 : s ≤ 5) (q1 q2 : Nat) (A1 : Option Addr) (n1 c1 : Nat) (L1 : List Int) (A2 : Option Addr) (n2 c2 : Nat) (L2 : List Int) (w : World) (hp1 : w.cell? ⟨q1, 0, none⟩ = some (.slice A1 n1 c1)) (hp2 : w.cell? ⟨q2, 0, none⟩ = some (.slice A2 n2 c2))
    (hr1 : RdI .i64 w w.heap.size A1 n1 c1 L1) (hr2 : RdI .i64 w w.heap.size A2 n2 c2 L2) (hL1 : ∀ x ∈ L1, 0 ≤ x ∧ x < 1048576) (hL2 : ∀ x ∈ L2, 0 ≤ x ∧ x < 1048576) (hn1 : n1 ≤ 1048576) (hn2 : n2 ≤ 1048576) :
    Calls Tryd.prog 31 (#[.int .i64 s] ++ #[.pointer (some ⟨q1, 0, none⟩), .pointer (some ⟨q2, 0, none⟩)]) w fun e w' => ∃ A3 n3 c3 A4 n4 c4, e = .returned (.tuple #[.slice A3 n3 c3, .slice A4 n4 c4]) ∧ TysV w' w'.heap.size A3 n3 c3 (L1.map fun n => plainV (bk s n)) ∧ MusV w' w'.heap.size A4 n4 c4 (L2.map fun v => (bk s v, 0)) ∧ Below w.heap.size w w' := by
  obtain ⟨i0, hi0, hz0, hz1, hz2⟩ := info_parts typeInfo
  obtain ⟨i1, hi1, hy0, hy1, hy2⟩ := info_parts muInfo
  have len1 := hr1.len
  have len2 := hr2.len
  have H1 := Lib.hid hr1
  have H2 := Lib.hid hr2
  have HL1 := Lib.hid hL1
  have HL2 := Lib.hid hL2
  have Hp2 := Lib.hid hp2
  clear hr1 hr2 hL1 hL2 hp2
  go_enter Tryd.func31, Tryd.ntmps31
  go_wp2_with fail
  clear hp1
  go_loopg [6, 14] n1 (fun gh v i wr => ∃ (k : Nat) (A5 : Option Addr) (c5 : Nat), k ≤ n1 ∧ gh = n1 - k ∧ i = .int .i64 k ∧ v = .slice A5 k c5 ∧ OwnC wr w.heap.size 27 5 (fun _ => False) (.slice A5 k c5) k (((L1.take k).map fun n => plainV (bk s n)).flatMap encT) ∧ Below w.heap.size w wr)
  case atStart => exact ⟨0, none, 0, Nat.zero_le _, rfl, rfl, rfl, OwnC.nil, Below.refl _ _⟩
  case round =>
    obtain ⟨k, A5, c5, hk, rfl, rfl, rfl, ho, hbel⟩ := hrel
    by_cases hkn : k < n1
    · have d0 : decide (k < n1) = true := by simpa using hkn
      have hk' : k < L1.length := by omega
      obtain ⟨b, off, rfl, _, hc⟩ := (H1.out.below hbel).at_ (by omega)
      have e0 := hc k hk'
      have hx := HL1.out L1[k] (List.getElem_mem hk')
      have hst : ((L1.take (k + 1)).map fun n => plainV (bk s n)).flatMap encT = ((L1.take k).map fun n => plainV (bk s n)).flatMap encT ++ encT (plainV (bk s L1[k])) := by
        rw [List.take_succ_eq_append_getElem hk', List.map_append, List.flatMap_append]; simp
      obtain ⟨x, hxk⟩ : ∃ x, L1[k] = x := ⟨_, rfl⟩
      rw [hxk] at e0 hx hst
      have hq := lawV_any ((x + s) % 1048576) wr
      have Hq := Lib.hid hq
      have Hst := Lib.hid hst
      have Ho := Lib.hid ho
      have Hbel := Lib.hid hbel
      have k1 : (0 : Int) ≤ (k : Int) := by omega
      have k2 : (k : Int) < n1 := by omega
      have x0 := hx.1
      have x1 := hx.2
      clear hc hx hst hxk hq ho hbel
      go_wp2_with fail
      refine Hq.out.mono ?_; rintro e w5 ⟨A9, m9, c9, rfl, h9, hb5⟩
      have Ho5 := Lib.hid (Ho.out.beyond hb5)
      have Hb5 := Lib.hid (Hbel.out.trans (hb5.mono Hbel.out.size))
      have H9 := Lib.hid h9
      clear hb5 h9 Hq Ho e0
      go_wp2_with (at_builtin; go_must (refine wpList_append_cel w w5 rfl (.tmp 18) (.tmp 24) 25 rfl w.heap.size 27 i0 _ 5 56 Tryd.underlying25 hi0 hz0 hz1 hz2 rfl (by omega) (fun _ => False) (.slice A5 k c5) k _ rfl [.int .u8 1, .int .i64 ((x + s) % 1048576), .int .i64 0, .int .u8 0, .slice A9 m9 c9] (encT (plainV (bk s x))) rfl (by intro u hu; simp at hu; rcases hu with rfl | rfl | rfl | rfl | rfl <;> rfl) rfl Ho5.out (tyC (tysS_none H9.out)) (by unfold maxLen; omega) (by omega) Hb5.out (Nat.le_refl _) Hb5.out.size ?_); intro A6 c6 w6 ho6 hbel6 hg6 hz6 _)
      go_roundg (n1 - (k + 1))
      case measure => omega
      case rel => exact ⟨k + 1, A6, c6, by omega, rfl, by go_num, rfl, by rw [Hst.out]; exact ho6, hbel6⟩
    · have d0 : decide (k < n1) = false := by simpa using hkn
      obtain rfl : k = n1 := by omega
      rw [List.take_of_length_le (by omega)] at ho
      have hp2' := (hbel.cell (p := ⟨q2, 0, none⟩) (block_lt_of_cell Hp2.out)).trans Hp2.out
      have Ho := Lib.hid ho
      have Hbel := Lib.hid hbel
      clear ho hbel
      go_wp2_with fail
      clear hp2'
      obtain ⟨w1, rfl⟩ : ∃ w1 : World, w1 = wr := ⟨_, rfl⟩
      go_loopg [7, 29] n2 (fun gh v i wr => ∃ (k : Nat) (A6 : Option Addr) (c6 : Nat), k ≤ n2 ∧ gh = n2 - k ∧ i = .int .i64 k ∧ v = .slice A6 k c6 ∧ OwnC wr w1.heap.size 24 2 (fun _ => False) (.slice A6 k c6) k (((L2.take k).map fun v => (bk s v, (0 : Int))).flatMap encM) ∧ Below w1.heap.size w1 wr)
      case atStart => exact ⟨0, none, 0, Nat.zero_le _, rfl, rfl, rfl, OwnC.nil, Below.refl _ _⟩
      case round =>
        obtain ⟨j, A6, c6, hj, rfl, rfl, rfl, ho, hbel⟩ := hrel
        by_cases hjn : j < n2
        · have d1 : decide (j < n2) = true := by simpa using hjn
          have hj' : j < L2.length := by omega
          obtain ⟨b, off, rfl, _, hc⟩ := ((H2.out.fresh Hbel.out).below hbel).at_ (by omega)
          have e0 := hc j hj'
          have hx := HL2.out L2[j] (List.getElem_mem hj')
          have hst : ((L2.take (j + 1)).map fun v => (bk s v, (0 : Int))).flatMap encM = ((L2.take j).map fun v => (bk s v, (0 : Int))).flatMap encM ++ encM (bk s L2[j], 0) := by
            rw [List.take_succ_eq_append_getElem hj', List.map_append, List.flatMap_append]; simp
          obtain ⟨x, hxk⟩ : ∃ x, L2[j] = x := ⟨_, rfl⟩
          rw [hxk] at e0 hx hst
          have Hst := Lib.hid hst
          have Ho9 := Lib.hid ho
          have Hbel9 := Lib.hid hbel
          have k1 : (0 : Int) ≤ (j : Int) := by omega
          have k2 : (j : Int) < n2 := by omega
          have x0 := hx.1
          have x1 := hx.2
          clear hc hx hst hxk ho hbel
          go_wp2_with (at_builtin; go_must (refine wpList_append_cel w1 wr rfl (.tmp 33) (.tmp 39) 41 rfl w1.heap.size 24 i1 _ 2 16 Tryd.underlying41 hi1 hy0 hy1 hy2 rfl (by omega) (fun _ => False) (.slice A6 j c6) j _ rfl [.int .i64 ((x + s) % 1048576), .int .u8 0] (encM (bk s x, 0)) rfl (by intro u hu; simp at hu; rcases hu with rfl | rfl <;> rfl) rfl Ho9.out ⟨celIn_v.2 rfl, celIn_v.2 rfl, trivial⟩ (by unfold maxLen; omega) (by omega) Hbel9.out (Nat.le_refl _) Hbel9.out.size ?_); intro A7 c7 w7 ho7 hbel7 hg7 hz7 _)
          go_roundg (n2 - (j + 1))
          case measure => omega
          case rel => exact ⟨j + 1, A7, c7, by omega, rfl, by go_num, rfl, by rw [Hst.out]; exact ho7, hbel7⟩
        · have d1 : decide (j < n2) = false := by simpa using hjn
          obtain rfl : j = n2 := by omega
          rw [List.take_of_length_le (by omega)] at ho
          have HR : Hid (TysV wr wr.heap.size A5 k c5 (L1.map fun n => plainV (bk s n)) ∧ MusV wr wr.heap.size A6 j c6 (L2.map fun v => (bk s v, 0)) ∧ Below w.heap.size w wr) :=
            Lib.hid ⟨(Ho.out.beyond hbel).tys, musV_sl (ho.sl encM_len (by omega)), Hbel.out.trans (hbel.mono Hbel.out.size)⟩
          clear ho hbel
          go_wp2_with fail
          go_ret2
          exact ⟨A5, k, c5, A6, j, c6, rfl, HR.out.1, HR.out.2.1, HR.out.2.2⟩
end Go.Proofs.YtidamlkekgnhgaaDoor

/- Types in boxes; contracts with their answers named; usufructlaw06's first, second. -/
namespace Go.Proofs.YtidamlkekgnhgaaDoor
set_option linter.unusedVariables false
set_option linter.unusedSimpArgs false
open Go.RowKit

/-- a type in a box -/
def BT (w : World) (g : Nat) (t : TyD) (A : Option Addr) (m cp : Nat) : Prop := Blk w g 27 #[.int .u8 t.k, .int .i64 t.n, .int .i64 t.v, .int .u8 t.c, .slice A m cp] ∧ TysV w w.heap.size A m cp t.l
/-- a list of ints in a box -/
def BI (w : World) (g : Nat) (l : List Int) (A : Option Addr) (n c : Nat) : Prop := Blk w g 42 #[.slice A n c] ∧ RdI .i64 w w.heap.size A n c l
section
variable {w w' : World} {g : Nat} {t : TyD} {A : Option Addr} {m cp n c : Nat} {l : List Int}
theorem BT.fresh (h : BT w g t A m cp) (hb : Below w.heap.size w w') : BT w' g t A m cp := ⟨h.1.below hb h.1.lt, TysV.fresh h.2 hb⟩
theorem BI.fresh (h : BI w g l A n c) (hb : Below w.heap.size w w') : BI w' g l A n c := ⟨h.1.below hb h.1.lt, RdI.fresh h.2 hb⟩
theorem BT.lt (h : BT w g t A m cp) : g < w.heap.size := h.1.lt
theorem BI.lt (h : BI w g l A n c) : g < w.heap.size := h.1.lt
theorem BT.new (h : TysV w w.heap.size A m cp t.l) : BT (w.alloc (Obj.cells #[.int .u8 t.k, .int .i64 t.n, .int .i64 t.v, .int .u8 t.c, .slice A m cp] 27)) w.heap.size t A m cp := ⟨blk_new w _ _, TysV.fresh h (below_box _)⟩
theorem BI.new (h : RdI .i64 w w.heap.size A n c l) : BI (w.alloc (Obj.cells #[.slice A n c] 42)) w.heap.size l A n c := ⟨blk_new w _ _, RdI.fresh h (below_box _)⟩
/-- the five cells of a type in a box -/
theorem BT.five (h : BT w g t A m cp) : w.cell? ⟨g, 0, none⟩ = some (.int .u8 t.k) ∧ w.cell? ⟨g, 1, none⟩ = some (.int .i64 t.n) ∧ w.cell? ⟨g, 2, none⟩ = some (.int .i64 t.v) ∧ w.cell? ⟨g, 3, none⟩ = some (.int .u8 t.c) ∧ w.cell? ⟨g, 4, none⟩ = some (.slice A m cp) :=
  ⟨h.1.cell 0, h.1.cell 1, h.1.cell 2, h.1.cell 3, h.1.cell 4⟩
end
theorem canon_u {t u : TyD} {l1 l2 : List Int} (hu : canT t = u) (h1 : varsT t = l1) (h2 : multsT t = l2) (hm : mayT t = true) (A : Option Addr) (m cp : Nat) (w : World) (hl : TysV w w.heap.size A m cp t.l) :
    Calls Tryd.prog 30 #[.agg #[.int .u8 t.k, .int .i64 t.n, .int .i64 t.v, .int .u8 t.c, .slice A m cp]] w (RetCan u l1 l2 w) := by
  subst hu; subst h1; subst h2
  exact canon_any t hm A m cp w hl
theorem put_u {t u : TyD} {types : List TyD} {ms : List (Int × Int)} {x : Int} (ht : putT t types ms = u) (hx : putE t types ms = x) (A : Option Addr) (m cp : Nat) (A1 : Option Addr) (n1 c1 : Nat) (A2 : Option Addr) (n2 c2 : Nat) (w : World) (hl : TysV w w.heap.size A m cp t.l) (hts : TysV w w.heap.size A1 n1 c1 types) (hms : MusV w w.heap.size A2 n2 c2 ms) (hn : n1 ≤ 1099511627776) :
    Calls Tryd.prog 27 #[.agg #[.int .u8 t.k, .int .i64 t.n, .int .i64 t.v, .int .u8 t.c, .slice A m cp], .slice A1 n1 c1, .slice A2 n2 c2] w fun e w' => ∃ A m cp, e = .returned (.tuple #[.agg #[.int .u8 u.k, .int .i64 u.n, .int .i64 u.v, .int .u8 u.c, .slice A m cp], .int .i64 x]) ∧ TysV w' w'.heap.size A m cp u.l ∧ Below w.heap.size w w' := by
  subst ht; subst hx
  refine (tyPut_any t A m cp A1 n1 c1 types A2 n2 c2 ms w hl hts hms hn).mono ?_
  rintro e w' ⟨A', m', cp', rfl, h1, h2⟩
  exact ⟨A', m', cp', rfl, h1.lt fun b hb => hb.2, h2⟩
theorem MusV.fresh {w w' : World} {A : Option Addr} {n c : Nat} {ms : List (Int × Int)} (h : MusV w w.heap.size A n c ms) (hb : Below w.heap.size w w') : MusV w' w'.heap.size A n c ms := (h.below hb).more hb.size
theorem first_any (A : Option Addr) (n c : Nat) (A2 : Option Addr) (n2 c2 : Nat) (w : World) : Calls Tryd.prog 32 #[.slice A n c, .slice A2 n2 c2] w fun e w' => e = .returned (.slice A n c) ∧ w = w' := by
  go_enter Tryd.func32, Tryd.ntmps32
  go_wp2_with fail
  go_ret
  exact ⟨rfl, rfl⟩
theorem second_any (A : Option Addr) (n c : Nat) (A2 : Option Addr) (n2 c2 : Nat) (w : World) : Calls Tryd.prog 33 #[.slice A n c, .slice A2 n2 c2] w fun e w' => e = .returned (.slice A2 n2 c2) ∧ w = w' := by
  go_enter Tryd.func33, Tryd.ntmps33
  go_wp2_with fail
  go_ret
  exact ⟨rfl, rfl⟩
/-- one type, in a block, and in a row -/
structure One (a : TyD) (A : Option Addr) (m cp : Nat) (w W : World) : Prop where
  eq : ((w.alloc (Obj.cells #[.int .u8 a.k, .int .i64 a.n, .int .i64 a.v, .int .u8 a.c, .slice A m cp] 27)).alloc (Obj.cells #[.int .u8 a.k, .int .i64 a.n, .int .i64 a.v, .int .u8 a.c, .slice A m cp] 27)) = W
  bel : Below w.heap.size w W
  size : W.heap.size = w.heap.size + 1 + 1
  bt : BT W w.heap.size a A m cp
  row : TysV W W.heap.size (some ⟨w.heap.size + 1, 0, none⟩) 1 1 [a]
theorem one_new (a : TyD) (A : Option Addr) (m cp : Nat) (w : World) (h : TysV w w.heap.size A m cp a.l) : ∃ W, One a A m cp w W := by
  obtain ⟨w1, hw1⟩ : ∃ W, w.alloc (Obj.cells #[.int .u8 a.k, .int .i64 a.n, .int .i64 a.v, .int .u8 a.c, .slice A m cp] 27) = W := ⟨_, rfl⟩
  have hb1 := below_box (w := w) (Obj.cells #[.int .u8 a.k, .int .i64 a.n, .int .i64 a.v, .int .u8 a.c, .slice A m cp] 27)
  have hn1 := BT.new h
  have hs1 : w1.heap.size = w.heap.size + 1 := by rw [← hw1]; simp
  obtain ⟨W, hW⟩ : ∃ W, w1.alloc (Obj.cells #[.int .u8 a.k, .int .i64 a.n, .int .i64 a.v, .int .u8 a.c, .slice A m cp] 27) = W := ⟨_, rfl⟩
  have hb2 := below_box (w := w1) (Obj.cells #[.int .u8 a.k, .int .i64 a.n, .int .i64 a.v, .int .u8 a.c, .slice A m cp] 27)
  have hn2 := blk_new w1 #[.int .u8 a.k, .int .i64 a.n, .int .i64 a.v, .int .u8 a.c, .slice A m cp] 27
  have hs2 : W.heap.size = w.heap.size + 1 + 1 := by rw [← hW]; simp [hs1]
  rw [hw1] at hb1 hn1
  rw [hW] at hb2 hn2
  rw [hs1] at hn2
  have hb := hb1.trans (hb2.mono hb1.size)
  exact ⟨W, by rw [hw1, hW], hb, hs2, hn1.fresh hb2, ty1_new hn2 (by omega) (TysV.fresh h hb)⟩
/-- what Canon told, in boxes -/
structure Cans (c : TyD) (l1 l2 : List Int) (A3 : Option Addr) (m3 c3 : Nat) (A4 : Option Addr) (n4 c4 : Nat) (A5 : Option Addr) (n5 c5 : Nat) (w W : World) : Prop where
  eq : ((w.alloc (Obj.cells #[.int .u8 c.k, .int .i64 c.n, .int .i64 c.v, .int .u8 c.c, .slice A3 m3 c3] 27)).alloc (Obj.cells #[.slice A4 n4 c4] 42)).alloc (Obj.cells #[.slice A5 n5 c5] 42) = W
  bel : Below w.heap.size w W
  bt : BT W w.heap.size c A3 m3 c3
  b1 : BI W (w.heap.size + 1) l1 A4 n4 c4
  b2 : BI W (w.heap.size + 1 + 1) l2 A5 n5 c5
theorem cans_new (c : TyD) (l1 l2 : List Int) (A3 : Option Addr) (m3 c3 : Nat) (A4 : Option Addr) (n4 c4 : Nat) (A5 : Option Addr) (n5 c5 : Nat) (w : World) (h3 : TysV w w.heap.size A3 m3 c3 c.l) (h4 : RdI .i64 w w.heap.size A4 n4 c4 l1) (h5 : RdI .i64 w w.heap.size A5 n5 c5 l2) : ∃ W, Cans c l1 l2 A3 m3 c3 A4 n4 c4 A5 n5 c5 w W := by
  obtain ⟨w1, hw1⟩ : ∃ W, w.alloc (Obj.cells #[.int .u8 c.k, .int .i64 c.n, .int .i64 c.v, .int .u8 c.c, .slice A3 m3 c3] 27) = W := ⟨_, rfl⟩
  have hb1 := below_box (w := w) (Obj.cells #[.int .u8 c.k, .int .i64 c.n, .int .i64 c.v, .int .u8 c.c, .slice A3 m3 c3] 27)
  have x1 := BT.new h3
  have hs1 : w1.heap.size = w.heap.size + 1 := by rw [← hw1]; simp
  rw [hw1] at hb1 x1
  obtain ⟨w2, hw2⟩ : ∃ W, w1.alloc (Obj.cells #[.slice A4 n4 c4] 42) = W := ⟨_, rfl⟩
  have hb2 := below_box (w := w1) (Obj.cells #[.slice A4 n4 c4] 42)
  have x2 := BI.new (RdI.fresh h4 hb1)
  have hs2 : w2.heap.size = w.heap.size + 1 + 1 := by rw [← hw2]; simp [hs1]
  rw [hw2] at hb2 x2
  rw [hs1] at x2
  obtain ⟨W, hW⟩ : ∃ W, w2.alloc (Obj.cells #[.slice A5 n5 c5] 42) = W := ⟨_, rfl⟩
  have hb3 := below_box (w := w2) (Obj.cells #[.slice A5 n5 c5] 42)
  have x3 := BI.new (RdI.fresh (RdI.fresh h5 hb1) hb2)
  rw [hW] at hb3 x3
  rw [hs2] at x3
  exact ⟨W, by rw [hw1, hw2, hW], (hb1.trans (hb2.mono hb1.size)).trans (hb3.mono (by omega)), (x1.fresh hb2).fresh hb3, x2.fresh hb3, x3⟩
/-! ### calls whose facts stand in an earlier world; a box that is laid at any time, and stored into later -/
theorem canons1_from {b0 W : World} (hb : Below b0.heap.size b0 W) {s : Int} (h0 : 0 ≤ s) (h5 : s ≤ 5) {g1 g2 : Nat} {l1 l2 : List Int} {A4 A5 : Option Addr} {n4 c4 n5 c5 : Nat} (D : BI b0 g1 l1 A4 n4 c4) (E : BI b0 g2 l2 A5 n5 c5) (hL1 : ∀ x ∈ l1, 0 ≤ x ∧ x < 1048576) (hL2 : ∀ x ∈ l2, 0 ≤ x ∧ x < 1048576) (hn1 : n4 ≤ 1048576) (hn2 : n5 ≤ 1048576) :
    Calls Tryd.prog 31 #[.int .i64 s, .pointer (some ⟨g1, 0, none⟩), .pointer (some ⟨g2, 0, none⟩)] W fun e w' => ∃ A3 n3 c3 A4 n4 c4, e = .returned (.tuple #[.slice A3 n3 c3, .slice A4 n4 c4]) ∧ TysV w' w'.heap.size A3 n3 c3 (l1.map fun n => plainV (bk s n)) ∧ MusV w' w'.heap.size A4 n4 c4 (l2.map fun v => (bk s v, 0)) ∧ Below b0.heap.size b0 w' ∧ Below W.heap.size W w' := by
  have D' := D.fresh hb
  have E' := E.fresh hb
  refine (canons1_any s h0 h5 g1 g2 A4 n4 c4 l1 A5 n5 c5 l2 W (D'.1.cell 0) (E'.1.cell 0) D'.2 E'.2 hL1 hL2 hn1 hn2).mono ?_
  rintro e w' ⟨a, b, c, d, f, g, rfl, h1, h2, h3⟩
  exact ⟨a, b, c, d, f, g, rfl, h1, h2, hb.trans (h3.mono hb.size), h3⟩
theorem put_from {b0 W : World} (hb : Below b0.heap.size b0 W) {t u : TyD} {types : List TyD} {ms : List (Int × Int)} {x : Int} (ht : putT t types ms = u) (hx : putE t types ms = x) {A : Option Addr} {m cp : Nat} {A1 : Option Addr} {n1 c1 : Nat} {A2 : Option Addr} {n2 c2 : Nat} (hl : TysV b0 b0.heap.size A m cp t.l) (hts : TysV b0 b0.heap.size A1 n1 c1 types) (hms : MusV b0 b0.heap.size A2 n2 c2 ms) (hn : n1 ≤ 1099511627776) :
    Calls Tryd.prog 27 #[.agg #[.int .u8 t.k, .int .i64 t.n, .int .i64 t.v, .int .u8 t.c, .slice A m cp], .slice A1 n1 c1, .slice A2 n2 c2] W fun e w' => ∃ A m cp, e = .returned (.tuple #[.agg #[.int .u8 u.k, .int .i64 u.n, .int .i64 u.v, .int .u8 u.c, .slice A m cp], .int .i64 x]) ∧ TysS w' (fun b => W.heap.size ≤ b ∧ b < w'.heap.size) A m cp u.l ∧ Below b0.heap.size b0 w' ∧ Below W.heap.size W w' := by
  subst ht; subst hx
  refine (tyPut_any t A m cp A1 n1 c1 types A2 n2 c2 ms W (hl.fresh hb) (hts.fresh hb) (hms.fresh hb) hn).mono ?_
  rintro e w' ⟨A', m', cp', rfl, h1, h2⟩
  exact ⟨A', m', cp', rfl, h1, hb.trans (h2.mono hb.size), h2⟩
theorem box_set {w0 wr : World} {gx K : Nat} {cs : Array Value} {u : TyD} {A : Option Addr} {m cp : Nat} (hz : Blk wr gx 27 #[.int .u8 0, .int .i64 0, .int .i64 0, .int .u8 0, .slice none 0 0]) (hx : TysS wr (fun b => K ≤ b ∧ b < wr.heap.size) A m cp u.l) (hg : gx < K) (hb : Below w0.heap.size w0 wr) (hg7 : w0.heap.size ≤ gx) :
    BT (((((wr.setCell ⟨gx, 0, none⟩ (.int .u8 u.k)).setCell ⟨gx, 1, none⟩ (.int .i64 u.n)).setCell ⟨gx, 2, none⟩ (.int .i64 u.v)).setCell ⟨gx, 3, none⟩ (.int .u8 u.c)).setCell ⟨gx, 4, none⟩ (.slice A m cp)) gx u A m cp ∧
    Below w0.heap.size w0 (((((wr.setCell ⟨gx, 0, none⟩ (.int .u8 u.k)).setCell ⟨gx, 1, none⟩ (.int .i64 u.n)).setCell ⟨gx, 2, none⟩ (.int .i64 u.v)).setCell ⟨gx, 3, none⟩ (.int .u8 u.c)).setCell ⟨gx, 4, none⟩ (.slice A m cp)) := by
  refine ⟨⟨((((hz.set_ 0 (.int .u8 u.k)).set_ 1 (.int .i64 u.n)).set_ 2 (.int .i64 u.v)).set_ 3 (.int .u8 u.c)).set_ 4 (.slice A m cp), ?_⟩, ((((hb.setCell (p := ⟨gx, 0, none⟩) hg7 _).setCell (p := ⟨gx, 1, none⟩) hg7 _).setCell (p := ⟨gx, 2, none⟩) hg7 _).setCell (p := ⟨gx, 3, none⟩) hg7 _).setCell (p := ⟨gx, 4, none⟩) hg7 _⟩
  refine TysS.lt (S := fun b => K ≤ b ∧ b < wr.heap.size) (hx.keep (fun b hb => hb) fun p hp => ?_) (fun b hb => by simpa using hb.2)
  have hp1 := hp.1
  have c1 : ∀ (W' : World) (o : Nat) (v : Value), (W'.setCell ⟨gx, o, none⟩ v).cell? p = W'.cell? p := fun W' o v => World.cell?_setCell_other _ _ _ _ (fun e => by rw [← e] at hp1; exact absurd hp1 (by show ¬ K ≤ gx; omega))
  rw [c1, c1, c1, c1, c1]
theorem box_lay {w0 wr : World} {K : Nat} {u : TyD} {A : Option Addr} {m cp : Nat} (hx : TysS wr (fun b => K ≤ b ∧ b < wr.heap.size) A m cp u.l) (hb : Below w0.heap.size w0 wr) :
    BT (wr.alloc (Obj.cells #[.int .u8 u.k, .int .i64 u.n, .int .i64 u.v, .int .u8 u.c, .slice A m cp] 27)) wr.heap.size u A m cp ∧ Below w0.heap.size w0 (wr.alloc (Obj.cells #[.int .u8 u.k, .int .i64 u.n, .int .i64 u.v, .int .u8 u.c, .slice A m cp] 27)) :=
  ⟨BT.new (hx.lt fun b hb => hb.2), hb.trans ((below_box _).mono hb.size)⟩
theorem below_alloc {w0 w : World} (h : Below w0.heap.size w0 w) (o : Obj) : Below w0.heap.size w0 (w.alloc o) := h.alloc h.size o
theorem below_unalloc {w w' : World} {o : Obj} (h : Below (w.alloc o).heap.size (w.alloc o) w') : Below w.heap.size w w' := (below_box o).trans (h.mono (by simp))
theorem five_set {wr : World} {b gx : Nat} {x0 x1 x2 x3 x4 v0 v1 v2 v3 v4 : Value} (h : wr.cell? ⟨b, 0, none⟩ = some x0 ∧ wr.cell? ⟨b, 1, none⟩ = some x1 ∧ wr.cell? ⟨b, 2, none⟩ = some x2 ∧ wr.cell? ⟨b, 3, none⟩ = some x3 ∧ wr.cell? ⟨b, 4, none⟩ = some x4) (hne : b < gx) :
    (((((wr.setCell ⟨gx, 0, none⟩ v0).setCell ⟨gx, 1, none⟩ v1).setCell ⟨gx, 2, none⟩ v2).setCell ⟨gx, 3, none⟩ v3).setCell ⟨gx, 4, none⟩ v4).cell? ⟨b, 0, none⟩ = some x0 ∧
    (((((wr.setCell ⟨gx, 0, none⟩ v0).setCell ⟨gx, 1, none⟩ v1).setCell ⟨gx, 2, none⟩ v2).setCell ⟨gx, 3, none⟩ v3).setCell ⟨gx, 4, none⟩ v4).cell? ⟨b, 1, none⟩ = some x1 ∧
    (((((wr.setCell ⟨gx, 0, none⟩ v0).setCell ⟨gx, 1, none⟩ v1).setCell ⟨gx, 2, none⟩ v2).setCell ⟨gx, 3, none⟩ v3).setCell ⟨gx, 4, none⟩ v4).cell? ⟨b, 2, none⟩ = some x2 ∧
    (((((wr.setCell ⟨gx, 0, none⟩ v0).setCell ⟨gx, 1, none⟩ v1).setCell ⟨gx, 2, none⟩ v2).setCell ⟨gx, 3, none⟩ v3).setCell ⟨gx, 4, none⟩ v4).cell? ⟨b, 3, none⟩ = some x3 ∧
    (((((wr.setCell ⟨gx, 0, none⟩ v0).setCell ⟨gx, 1, none⟩ v1).setCell ⟨gx, 2, none⟩ v2).setCell ⟨gx, 3, none⟩ v3).setCell ⟨gx, 4, none⟩ v4).cell? ⟨b, 4, none⟩ = some x4 := by
  have c1 : ∀ (W' : World) (o : Nat) (v : Value) (j : Nat), (W'.setCell ⟨gx, o, none⟩ v).cell? ⟨b, j, none⟩ = W'.cell? ⟨b, j, none⟩ := fun W' o v j => World.cell?_setCell_other _ _ _ _ (fun e => by injection e with e1 e2; omega)
  simp only [c1]
  exact h
theorem five_setz {wr : World} {b gx : Nat} {t : TypeId} {cs : Array Value} {x0 x1 x2 x3 x4 : Value} (hz : Blk wr gx t cs) (v0 v1 v2 v3 v4 : Value) (h : wr.cell? ⟨b, 0, none⟩ = some x0 ∧ wr.cell? ⟨b, 1, none⟩ = some x1 ∧ wr.cell? ⟨b, 2, none⟩ = some x2 ∧ wr.cell? ⟨b, 3, none⟩ = some x3 ∧ wr.cell? ⟨b, 4, none⟩ = some x4) (hne : b < gx) :
    (((((wr.setCell ⟨gx, 0, none⟩ v0).setCell ⟨gx, 1, none⟩ v1).setCell ⟨gx, 2, none⟩ v2).setCell ⟨gx, 3, none⟩ v3).setCell ⟨gx, 4, none⟩ v4).cell? ⟨b, 0, none⟩ = some x0 ∧
    (((((wr.setCell ⟨gx, 0, none⟩ v0).setCell ⟨gx, 1, none⟩ v1).setCell ⟨gx, 2, none⟩ v2).setCell ⟨gx, 3, none⟩ v3).setCell ⟨gx, 4, none⟩ v4).cell? ⟨b, 1, none⟩ = some x1 ∧
    (((((wr.setCell ⟨gx, 0, none⟩ v0).setCell ⟨gx, 1, none⟩ v1).setCell ⟨gx, 2, none⟩ v2).setCell ⟨gx, 3, none⟩ v3).setCell ⟨gx, 4, none⟩ v4).cell? ⟨b, 2, none⟩ = some x2 ∧
    (((((wr.setCell ⟨gx, 0, none⟩ v0).setCell ⟨gx, 1, none⟩ v1).setCell ⟨gx, 2, none⟩ v2).setCell ⟨gx, 3, none⟩ v3).setCell ⟨gx, 4, none⟩ v4).cell? ⟨b, 3, none⟩ = some x3 ∧
    (((((wr.setCell ⟨gx, 0, none⟩ v0).setCell ⟨gx, 1, none⟩ v1).setCell ⟨gx, 2, none⟩ v2).setCell ⟨gx, 3, none⟩ v3).setCell ⟨gx, 4, none⟩ v4).cell? ⟨b, 4, none⟩ = some x4 := five_set h hne
end Go.Proofs.YtidamlkekgnhgaaDoor

/- A region that draws its order: two operations that may come up, either first. -/
namespace Go.Proofs.YtidamlkekgnhgaaDoor
set_option linter.unusedVariables false
set_option linter.unusedSimpArgs false
open Go.RowKit
section
variable {P : Program} {ops : Array Oper} {Q : Exit → Act → World → Prop} {md : Region.Mode} {S : World → Prop} {tl : Nat}
theorem wpAnyT_two {i j : Nat} {oi oj : Oper} {fuel : Nat} {listed : Array Bool} {a : Act} {w : World} (hr : Region.ready md ops listed = [i, j]) (hi : ops[i]? = some oi) (hj : ops[j]? = some oj)
    (h1 : ∀ K : Act → World → Prop, Hid (∀ a' w', S w' → wpAnyT P md ops Q S tl fuel (listed.setIfInBounds i true) a' w' → K a' w') →
      if Region.wanted oi (yielded ops a.tmps) = true then oi.wp P a w K Q else K (a.put oi.dst undef) w)
    (h2 : ∀ K : Act → World → Prop, Hid (∀ a' w', S w' → wpAnyT P md ops Q S tl fuel (listed.setIfInBounds j true) a' w' → K a' w') →
      if Region.wanted oj (yielded ops a.tmps) = true then oj.wp P a w K Q else K (a.put oj.dst undef) w) : wpAnyT P md ops Q S tl (fuel + 1) listed a w := by
  refine ⟨fun h0 => (by rw [hr] at h0; cases h0), fun k hk => ?_⟩
  rw [hr] at hk
  rcases List.mem_cons.1 hk with rfl | hk
  · have := h1 (fun a' w' => (k < tl → S w') ∧ wpAnyT P md ops Q S tl fuel (listed.setIfInBounds k true) a' w') (fun a' w' h1 h2 => ⟨fun _ => h1, h2⟩)
    unfold wpOp
    simp only [hi]
    split
    · rename_i hw; rw [if_pos hw] at this; exact .inl this
    · rename_i hw; rw [if_neg hw] at this; exact this
  · obtain rfl : k = j := by simpa using hk
    have := h2 (fun a' w' => (k < tl → S w') ∧ wpAnyT P md ops Q S tl fuel (listed.setIfInBounds k true) a' w') (fun a' w' h1 h2 => ⟨fun _ => h1, h2⟩)
    unfold wpOp
    simp only [hj]
    split
    · rename_i hw; rw [if_pos hw] at this; exact .inl this
    · rename_i hw; rw [if_neg hw] at this; exact this
end
end Go.Proofs.YtidamlkekgnhgaaDoor

/- Contracts: slices.ContainsFunc at ints and TyPutPut's closures; slices.Clone at Mus. -/
namespace Go.Proofs.YtidamlkekgnhgaaDoor
set_option linter.unusedVariables false
set_option linter.unusedSimpArgs false
open Go.RowKit

def findN (p : Int → Bool) (l : List Int) : Int := match l.findIdx? p with
  | some i => i
  | none => -1
theorem findN_at {p : Int → Bool} {l : List Int} {i : Nat} (h : i < l.length) (hb : ∀ j (h : j < l.length), j < i → p l[j] = false) (hp : p l[i] = true) : findN p l = i := by
  have : l.findIdx? p = some i := List.findIdx?_eq_some_iff_getElem.2 ⟨h, hp, fun j hj => by rw [hb j (by omega) hj]; simp⟩
  unfold findN
  rw [this]
theorem findN_none {p : Int → Bool} {l : List Int} (hb : ∀ j (h : j < l.length), p l[j] = false) : findN p l = -1 := by
  have : l.findIdx? p = none := List.findIdx?_eq_none_iff.2 fun x hx => by
    obtain ⟨j, hj, rfl⟩ := List.getElem_of_mem hx
    exact hb j hj
  unfold findN
  rw [this]
theorem findN_any (p : Int → Bool) (l : List Int) : decide (findN p l ≥ 0) = l.any p := by
  unfold findN
  cases e : l.findIdx? p with
  | none =>
    have := List.findIdx?_eq_none_iff.1 e
    have h : l.any p = false := List.any_eq_false.2 fun x hx => by rw [this x hx]; simp
    rw [h]; decide
  | some i =>
    obtain ⟨hi, hp, _⟩ := List.findIdx?_eq_some_iff_getElem.1 e
    have h : l.any p = true := List.any_eq_true.2 ⟨l[i], List.getElem_mem hi, hp⟩
    rw [h]; simp
set_option maxRecDepth 100000 in
set_option maxHeartbeats 1000000 in
theorem indexIV (p : Int → Bool) (g : Nat) (A : Option Addr) (n c : Nat) (us : List Int) (w : World) (B : Nat) (h : RdI .i64 w B A n c us)
    (he : ∀ x ∈ us, Calls Tryd.prog 25 (#[.int .i64 x] ++ #[.pointer (some ⟨g, 0, none⟩)]) w fun e w' => e = .returned (.bool (p x)) ∧ w' = w) :
    Calls Tryd.prog 52 #[.slice A n c, .func (.func 25) #[] #[.pointer (some ⟨g, 0, none⟩)]] w fun e w' => e = .returned (.int .i64 (findN p us)) ∧ w' = w := by
  have hlen := h.len
  have m63 : n ≤ 9223372036854775807 := Nat.le_trans h.2.1 h.2.2
  have H := Lib.hid h
  have He := Lib.hid he
  clear h he
  go_enter Tryd.func52, Tryd.ntmps52
  go_wp2_with fail
  go_loopg [5, 8] n (fun gh _ i wr => ∃ k : Nat, k ≤ n ∧ gh = n - k ∧ i = .int .i64 k ∧ wr = w ∧ ∀ j (h : j < us.length), j < k → p us[j] = false)
  case atStart => exact ⟨0, Nat.zero_le _, rfl, rfl, rfl, fun j _ hj => absurd hj (by omega)⟩
  case round =>
    obtain ⟨k, hk, rfl, rfl, rfl, hb⟩ := hrel
    by_cases hkm : k < n
    · have d0 : decide (k < n) = true := by simpa using hkm
      have hk' : k < us.length := by omega
      obtain ⟨b, off, rfl, _, hc⟩ := H.out.at_ (by omega)
      have e0 := hc k hk'
      have Hb := Lib.hid hb
      have hq := He.out us[k] (List.getElem_mem hk')
      obtain ⟨P, hP⟩ : ∃ P, p us[k] = P := ⟨_, rfl⟩
      rw [hP] at hq
      have HP := Lib.hid hP
      have k1 : (0 : Int) ≤ (k : Int) := by omega
      have k2 : (k : Int) < n := by omega
      clear hc hb hP
      obtain ⟨y, hy⟩ : ∃ y, us[k] = y := ⟨_, rfl⟩
      rw [hy] at e0 hq
      have Hq := Lib.hid hq
      clear hy hq
      cases P with
      | true =>
        have HR : Hid ((k : Int) = findN p us) := Lib.hid (findN_at hk' Hb.out HP.out).symm
        go_wp2_with fail
        refine Hq.out.mono ?_; rintro e w1 ⟨rfl, rfl⟩
        go_wp2_with fail
        go_ret
        exact ⟨ret_int HR.out, rfl⟩
      | false =>
        have Hn : Hid (∀ j (h : j < us.length), j < k + 1 → p us[j] = false) := Lib.hid fun j hj hjk => by
          rcases Nat.lt_or_ge j k with h | h
          · exact Hb.out j hj h
          · obtain rfl : j = k := by omega
            exact HP.out
        go_wp2_with fail
        refine Hq.out.mono ?_; rintro e w1 ⟨rfl, rfl⟩
        go_wp2_with fail
        go_roundg (n - (k + 1))
        case measure => omega
        case rel => exact ⟨k + 1, by omega, rfl, by go_num, rfl, Hn.out⟩
    · have d0 : decide (k < n) = false := by simpa using hkm
      have HR : Hid ((-1 : Int) = findN p us) := Lib.hid (findN_none fun j hj => hb j hj (by omega)).symm
      clear hb
      go_wp2_with fail
      go_ret
      exact ⟨ret_int HR.out, rfl⟩
theorem containsIV (p : Int → Bool) (g : Nat) (A : Option Addr) (n c : Nat) (us : List Int) (w : World) (B : Nat) (h : RdI .i64 w B A n c us)
    (he : ∀ x ∈ us, Calls Tryd.prog 25 (#[.int .i64 x] ++ #[.pointer (some ⟨g, 0, none⟩)]) w fun e w' => e = .returned (.bool (p x)) ∧ w' = w) (r : Bool) (hr : us.any p = r) :
    Calls Tryd.prog 24 #[.slice A n c, .func (.func 25) #[] #[.pointer (some ⟨g, 0, none⟩)]] w fun e w' => e = .returned (.bool r) ∧ w' = w := by
  have hq := indexIV p g A n c us w B h he
  have hd := findN_any p us
  rw [hr] at hd
  obtain ⟨i, hi⟩ : ∃ i, findN p us = i := ⟨_, rfl⟩
  rw [hi] at hq hd
  have Hq := Lib.hid hq
  clear hq hr hi h he
  go_enter Tryd.func24, Tryd.ntmps24
  go_wp2_with fail
  refine Hq.out.mono ?_; rintro e w1 ⟨rfl, rfl⟩
  have Hd : Hid (decide (i ≥ 0) = r) := Lib.hid hd
  clear hd
  go_wp2_with fail
  go_ret
  exact ⟨ret_bool Hd.out, rfl⟩
set_option maxRecDepth 100000 in
set_option maxHeartbeats 1000000 in
theorem indexIM (p : Int → Bool) (g : Nat) (A : Option Addr) (n c : Nat) (us : List Int) (w : World) (B : Nat) (h : RdI .i64 w B A n c us)
    (he : ∀ x ∈ us, Calls Tryd.prog 26 (#[.int .i64 x] ++ #[.pointer (some ⟨g, 0, none⟩)]) w fun e w' => e = .returned (.bool (p x)) ∧ w' = w) :
    Calls Tryd.prog 52 #[.slice A n c, .func (.func 26) #[] #[.pointer (some ⟨g, 0, none⟩)]] w fun e w' => e = .returned (.int .i64 (findN p us)) ∧ w' = w := by
  have hlen := h.len
  have m63 : n ≤ 9223372036854775807 := Nat.le_trans h.2.1 h.2.2
  have H := Lib.hid h
  have He := Lib.hid he
  clear h he
  go_enter Tryd.func52, Tryd.ntmps52
  go_wp2_with fail
  go_loopg [5, 8] n (fun gh _ i wr => ∃ k : Nat, k ≤ n ∧ gh = n - k ∧ i = .int .i64 k ∧ wr = w ∧ ∀ j (h : j < us.length), j < k → p us[j] = false)
  case atStart => exact ⟨0, Nat.zero_le _, rfl, rfl, rfl, fun j _ hj => absurd hj (by omega)⟩
  case round =>
    obtain ⟨k, hk, rfl, rfl, rfl, hb⟩ := hrel
    by_cases hkm : k < n
    · have d0 : decide (k < n) = true := by simpa using hkm
      have hk' : k < us.length := by omega
      obtain ⟨b, off, rfl, _, hc⟩ := H.out.at_ (by omega)
      have e0 := hc k hk'
      have Hb := Lib.hid hb
      have hq := He.out us[k] (List.getElem_mem hk')
      obtain ⟨P, hP⟩ : ∃ P, p us[k] = P := ⟨_, rfl⟩
      rw [hP] at hq
      have HP := Lib.hid hP
      have k1 : (0 : Int) ≤ (k : Int) := by omega
      have k2 : (k : Int) < n := by omega
      clear hc hb hP
      obtain ⟨y, hy⟩ : ∃ y, us[k] = y := ⟨_, rfl⟩
      rw [hy] at e0 hq
      have Hq := Lib.hid hq
      clear hy hq
      cases P with
      | true =>
        have HR : Hid ((k : Int) = findN p us) := Lib.hid (findN_at hk' Hb.out HP.out).symm
        go_wp2_with fail
        refine Hq.out.mono ?_; rintro e w1 ⟨rfl, rfl⟩
        go_wp2_with fail
        go_ret
        exact ⟨ret_int HR.out, rfl⟩
      | false =>
        have Hn : Hid (∀ j (h : j < us.length), j < k + 1 → p us[j] = false) := Lib.hid fun j hj hjk => by
          rcases Nat.lt_or_ge j k with h | h
          · exact Hb.out j hj h
          · obtain rfl : j = k := by omega
            exact HP.out
        go_wp2_with fail
        refine Hq.out.mono ?_; rintro e w1 ⟨rfl, rfl⟩
        go_wp2_with fail
        go_roundg (n - (k + 1))
        case measure => omega
        case rel => exact ⟨k + 1, by omega, rfl, by go_num, rfl, Hn.out⟩
    · have d0 : decide (k < n) = false := by simpa using hkm
      have HR : Hid ((-1 : Int) = findN p us) := Lib.hid (findN_none fun j hj => hb j hj (by omega)).symm
      clear hb
      go_wp2_with fail
      go_ret
      exact ⟨ret_int HR.out, rfl⟩
theorem containsIM (p : Int → Bool) (g : Nat) (A : Option Addr) (n c : Nat) (us : List Int) (w : World) (B : Nat) (h : RdI .i64 w B A n c us)
    (he : ∀ x ∈ us, Calls Tryd.prog 26 (#[.int .i64 x] ++ #[.pointer (some ⟨g, 0, none⟩)]) w fun e w' => e = .returned (.bool (p x)) ∧ w' = w) (r : Bool) (hr : us.any p = r) :
    Calls Tryd.prog 24 #[.slice A n c, .func (.func 26) #[] #[.pointer (some ⟨g, 0, none⟩)]] w fun e w' => e = .returned (.bool r) ∧ w' = w := by
  have hq := indexIM p g A n c us w B h he
  have hd := findN_any p us
  rw [hr] at hd
  obtain ⟨i, hi⟩ : ∃ i, findN p us = i := ⟨_, rfl⟩
  rw [hi] at hq hd
  have Hq := Lib.hid hq
  clear hq hr hi h he
  go_enter Tryd.func24, Tryd.ntmps24
  go_wp2_with fail
  refine Hq.out.mono ?_; rintro e w1 ⟨rfl, rfl⟩
  have Hd : Hid (decide (i ≥ 0) = r) := Lib.hid hd
  clear hd
  go_wp2_with fail
  go_ret
  exact ⟨ret_bool Hd.out, rfl⟩
theorem pp1_any (x : Int) (g n c : Nat) (A : Option Addr) (w : World) (hp : w.cell? ⟨g, 0, none⟩ = some (.slice A n c)) (hn : n ≤ 9223372036854775807) :
    Calls Tryd.prog 25 (#[.int .i64 x] ++ #[.pointer (some ⟨g, 0, none⟩)]) w fun e w' => e = .returned (.bool (decide (x ≥ n))) ∧ w' = w := by
  go_enter Tryd.func25, Tryd.ntmps25
  go_wp2_with fail
  go_ret
  exact ⟨rfl, rfl⟩
theorem pp2_any (x : Int) (g n c : Nat) (A : Option Addr) (w : World) (hp : w.cell? ⟨g, 0, none⟩ = some (.slice A n c)) (hn : n ≤ 9223372036854775807) :
    Calls Tryd.prog 26 (#[.int .i64 x] ++ #[.pointer (some ⟨g, 0, none⟩)]) w fun e w' => e = .returned (.bool (decide (x ≥ n))) ∧ w' = w := by
  go_enter Tryd.func26, Tryd.ntmps26
  go_wp2_with fail
  go_ret
  exact ⟨rfl, rfl⟩

def cloneRenM : Go.Shelf.Ren := ⟨fun | 41 => 29 | n => n, fun | 22 => 41 | 23 => 24 | 4 => 4 | n => n, fun | n => n⟩
theorem cloneLaysM : Go.Proofs.SlLaysE0.n41 Tryd.prog cloneRenM := {
  mixed := by kernel_rfl
  f41 := ⟨Tryd.f29.name, by decide, Tryd.func29.trans (congrArg some (by kernel_rfl))⟩
  t4 := Tryd.underlying4
  a4 := Tryd.isAgg4
  z4 := Tryd.sizeOf4
  v4 := Tryd.zeroValue4
  t22 := Tryd.underlying41
  a22 := Tryd.isAgg41
  z22 := Tryd.sizeOf41
  v22 := Tryd.zeroValue41 }
/-- the cells of Mus -/
def muC (ms : List (Int × Int)) : List Value := ms.flatMap fun x => [.int .i64 x.1, .int .u8 x.2]
theorem muC_len (ms : List (Int × Int)) : (muC ms).length = ms.length * 2 := by
  induction ms with
  | nil => rfl
  | cons x ms ih =>
    have e : muC (x :: ms) = [.int .i64 x.1, .int .u8 x.2] ++ muC ms := rfl
    rw [e, List.length_append, ih]; simp; omega
theorem muC_append (a b : List (Int × Int)) : muC (a ++ b) = muC a ++ muC b := List.flatMap_append
theorem muC_get {ms : List (Int × Int)} {i : Nat} (h : i < ms.length) : (muC ms)[i * 2]? = some (.int .i64 ms[i].1) ∧ (muC ms)[i * 2 + 1]? = some (.int .u8 ms[i].2) := by
  have e : ms = ms.take i ++ ms[i] :: ms.drop (i + 1) := by rw [List.getElem_cons_drop, List.take_append_drop]
  have hl : (muC (ms.take i)).length = i * 2 := by rw [muC_len, List.length_take]; omega
  have e2 : muC ms = muC (ms.take i) ++ ([.int .i64 ms[i].1, .int .u8 ms[i].2] ++ muC (ms.drop (i + 1))) := by
    conv => lhs; rw [e]
    rw [muC_append]; rfl
  rw [e2]
  constructor
  · rw [List.getElem?_append_right (by omega), hl, Nat.sub_self]; rfl
  · rw [List.getElem?_append_right (by omega), hl, show i * 2 + 1 - i * 2 = 1 from by omega]; rfl
theorem muC_set {ms : List (Int × Int)} {i : Nat} (h : i < ms.length) (q : Int × Int) : ((muC ms).set (i * 2) (.int .i64 q.1)).set (i * 2 + 1) (.int .u8 q.2) = muC (ms.set i q) := by
  have e : ms = ms.take i ++ ms[i] :: ms.drop (i + 1) := by rw [List.getElem_cons_drop, List.take_append_drop]
  have hl : (muC (ms.take i)).length = i * 2 := by rw [muC_len, List.length_take]; omega
  have hl2 : (ms.take i).length = i := by rw [List.length_take]; omega
  have e2 : muC ms = muC (ms.take i) ++ ([.int .i64 ms[i].1, .int .u8 ms[i].2] ++ muC (ms.drop (i + 1))) := by
    conv => lhs; rw [e]
    rw [muC_append]; rfl
  have e3 : ms.set i q = ms.take i ++ q :: ms.drop (i + 1) := by
    rw [List.set_eq_take_append_cons_drop, if_pos h]
  rw [e2, e3, muC_append, List.set_append_right _ _ (by omega), hl, Nat.sub_self, List.set_append_right _ _ (by omega), hl, show i * 2 + 1 - i * 2 = 1 from by omega]
  rfl
theorem MusV.cells2 {w : World} {B : Nat} {A : Option Addr} {n c : Nat} {ms : List (Int × Int)} (h : MusV w B A n c ms) (hn : 0 < n) : ∃ b off, A = some ⟨b, off, none⟩ ∧ b < B ∧ ∀ j u, (muC ms)[j]? = some u → w.cell? ⟨b, off + j, none⟩ = some u := by
  obtain ⟨b, off, e, hb, hc⟩ := h.2.2.2 hn
  refine ⟨b, off, e, hb, fun j u hu => ?_⟩
  have hj : j < ms.length * 2 := by rw [← muC_len]; exact (List.getElem?_eq_some_iff.1 hu).1
  have hi : j / 2 < ms.length := by omega
  have hg := muC_get hi
  have hcc := hc (j / 2) hi
  rcases Nat.mod_two_eq_zero_or_one j with h2 | h2
  · have ej : j = j / 2 * 2 := by omega
    rw [ej, hg.1] at hu
    injection hu with hu
    rw [ej, ← hu, show off + j / 2 * 2 / 2 * 2 = off + j / 2 * 2 from by omega] at *
    exact hcc.1
  · have ej : j = j / 2 * 2 + 1 := by omega
    rw [ej, hg.2] at hu
    injection hu with hu
    rw [ej, ← hu, ← Nat.add_assoc]
    exact hcc.2
theorem cloneMu_any (A : Option Addr) (n c : Nat) (ms : List (Int × Int)) (w : World) (h : MusV w w.heap.size A n c ms) (hbig : n * 16 ≤ 140737488355328) :
    Calls Tryd.prog 29 #[.slice A n c] w fun e w' => ∃ A' c', e = .returned (.slice A' n c') ∧ w'.ownsRow w.heap.size 24 2 (.slice A' n c') n (muC ms) ∧ Below w.heap.size w w' := by
  obtain ⟨i0, hi0, hz0, hz1, hz2⟩ := info_parts muInfo
  have hlen := h.len
  rcases Nat.eq_zero_or_pos n with h0 | h0
  · subst h0
    have hts : ms = [] := List.eq_nil_of_length_eq_zero hlen
    subst hts
    rcases A with _ | a
    · refine (AnyE.slices_Clone_nil cloneLaysM 0 c w).mono ?_
      rintro e w1 ⟨rfl, rfl⟩
      exact ⟨none, 0, rfl, World.ownsRow_nil _ _ _ _, Below.refl _ _⟩
    · have hq := fun w a n c n' c' => Lib.run_eql_slice_nil (P := Tryd.prog) w 41 24 a n c n' c' Tryd.underlying41
      clear h hlen
      go_enter Tryd.func29, Tryd.ntmps29
      go_wp2_with (at_builtin; refine wpList_append_own _ rfl _ _ 41 rfl w.heap.size 24 i0 _ 2 16 Tryd.underlying41 hi0 hz0 hz1 hz2 rfl (by omega) _ 0 [] rfl (World.ownsRow_lit w #[] 0 (Nat.le_refl _) (Nat.zero_le _) rfl) a 0 c [] rfl rfl (fun j u h => by simp at h) (fun u h => by simp at h) (Nat.zero_le _) (by omega) (by simp) ?_; intro v1 w1 hown1 hg1 hnil)
      go_ret
      obtain ⟨A', c', rfl⟩ := ownsRow_form hown1
      exact ⟨A', c', rfl, hown1, ((Below.refl _ _).alloc (Nat.le_refl _) _).grown hg1 (by simp) (fun k hk => by have hk' : some w.heap.size = some k := hk; injection hk' with h; omega)⟩
  · obtain ⟨b, off, rfl, hb, hc⟩ := h.cells2 h0
    refine (AnyE.slices_Clone cloneLaysM i0 _ 2 16 hi0 hz0 hz1 hz2 rfl (by omega) Tryd.sizeOf24 b off n c (muC ms) w (by rw [muC_len, hlen]) (Nat.le_trans h.2.1 h.2.2.1) hbig hc (fun u hu => by
      unfold muC at hu
      obtain ⟨x, _, hx⟩ := List.mem_flatMap.1 hu
      simp at hx
      rcases hx with rfl | rfl <;> rfl)).mono ?_
    rintro e w1 ⟨v', rfl, hown, hne, hb1⟩
    obtain ⟨A', c', rfl⟩ := ownsRow_form hown
    exact ⟨A', c', rfl, hown, hb1⟩
theorem musV_own {w : World} {base n c : Nat} {A : Option Addr} {ms : List (Int × Int)} (h : w.ownsRow base 24 2 (.slice A n c) n (muC ms)) : MusV w w.heap.size A n c ms := by
  have hl : ms.length = n := by have := h.1; rw [muC_len] at this; omega
  rcases h.2 with ⟨e0, hn⟩ | ⟨g, cap, cur, e0, hb, hg, hn, hm, hs, ht⟩
  · injection e0 with e1 e2 e3
    subst e1; subst e2; subst e3
    exact ⟨hl, Nat.le_refl _, Nat.zero_le _, fun h => absurd h (by omega)⟩
  · injection e0 with e1 e2 e3
    subst e1; subst e3
    refine ⟨hl, hn, hm, fun _ => ⟨g, 0, rfl, (Array.getElem?_eq_some_iff.1 hg).1, fun i hi => ?_⟩⟩
    have hgt := muC_get hi
    have c0 := h.cells (g := g) rfl _ _ hgt.1
    have c1 := h.cells (g := g) rfl _ _ hgt.2
    rw [show (Addr.add ⟨g, 0, none⟩ (i * 2)) = ⟨g, 0 + i * 2, none⟩ from by unfold Addr.add; split <;> simp_all] at c0
    rw [show (Addr.add ⟨g, 0, none⟩ (i * 2 + 1)) = ⟨g, 0 + (i * 2 + 1), none⟩ from by unfold Addr.add; split <;> simp_all] at c1
    exact ⟨c0, by rw [Nat.add_assoc]; exact c1⟩
/-- a Mu of a row of the call's own is laid anew -/
theorem mu_store {w : World} {base n c g k : Nat} {ms : List (Int × Int)} (h : w.ownsRow base 24 2 (.slice (some ⟨g, 0, none⟩) n c) n (muC ms)) (hk : k < ms.length) (q : Int × Int) :
    ((w.setCell ⟨g, k * 2, none⟩ (.int .i64 q.1)).setCell ⟨g, k * 2 + 1, none⟩ (.int .u8 q.2)).ownsRow base 24 2 (.slice (some ⟨g, 0, none⟩) n c) n (muC (ms.set k q)) := by
  obtain ⟨h1, _⟩ := h.stored (k * 2) (.int .i64 q.1)
  obtain ⟨h2, _⟩ := h1.stored (k * 2 + 1) (.int .u8 q.2)
  rw [muC_set hk] at h2
  exact h2
/-- the four boxes at the beginning -/
structure PPs (t : TyD) (A : Option Addr) (m cp : Nat) (A1 : Option Addr) (n1 c1 : Nat) (A3 : Option Addr) (n3 c3 : Nat) (w W : World) : Prop where
  eq : (((w.alloc (Obj.cells #[.int .u8 t.k, .int .i64 t.n, .int .i64 t.v, .int .u8 t.c, .slice A m cp] 27)).alloc (Obj.cells #[.slice A1 n1 c1] 25)).alloc (Obj.cells #[.slice A3 n3 c3] 41)).alloc (Obj.cells #[.int .u8 t.k, .int .i64 t.n, .int .i64 t.v, .int .u8 t.c, .slice A m cp] 27) = W
  bel : Below w.heap.size w W
  size : W.heap.size = w.heap.size + 1 + 1 + 1 + 1
  bt : BT W w.heap.size t A m cp
  b1 : Blk W (w.heap.size + 1) 25 #[.slice A1 n1 c1]
  b2 : Blk W (w.heap.size + 1 + 1) 41 #[.slice A3 n3 c3]
  row : TysV W W.heap.size (some ⟨w.heap.size + 1 + 1 + 1, 0, none⟩) 1 1 [t]
theorem pps_new (t : TyD) (A : Option Addr) (m cp : Nat) (A1 : Option Addr) (n1 c1 : Nat) (A3 : Option Addr) (n3 c3 : Nat) (w : World) (h : TysV w w.heap.size A m cp t.l) : ∃ W, PPs t A m cp A1 n1 c1 A3 n3 c3 w W := by
  obtain ⟨w1, hw1⟩ : ∃ W, w.alloc (Obj.cells #[.int .u8 t.k, .int .i64 t.n, .int .i64 t.v, .int .u8 t.c, .slice A m cp] 27) = W := ⟨_, rfl⟩
  have hb1 := below_box (w := w) (Obj.cells #[.int .u8 t.k, .int .i64 t.n, .int .i64 t.v, .int .u8 t.c, .slice A m cp] 27)
  have x1 := BT.new h
  have hs1 : w1.heap.size = w.heap.size + 1 := by rw [← hw1]; simp
  rw [hw1] at hb1 x1
  obtain ⟨w2, hw2⟩ : ∃ W, w1.alloc (Obj.cells #[.slice A1 n1 c1] 25) = W := ⟨_, rfl⟩
  have hb2 := below_box (w := w1) (Obj.cells #[.slice A1 n1 c1] 25)
  have x2 := blk_new w1 #[.slice A1 n1 c1] 25
  have hs2 : w2.heap.size = w.heap.size + 1 + 1 := by rw [← hw2]; simp [hs1]
  rw [hw2] at hb2 x2
  rw [hs1] at x2
  obtain ⟨w3, hw3⟩ : ∃ W, w2.alloc (Obj.cells #[.slice A3 n3 c3] 41) = W := ⟨_, rfl⟩
  have hb3 := below_box (w := w2) (Obj.cells #[.slice A3 n3 c3] 41)
  have x3 := blk_new w2 #[.slice A3 n3 c3] 41
  have hs3 : w3.heap.size = w.heap.size + 1 + 1 + 1 := by rw [← hw3]; simp [hs2]
  rw [hw3] at hb3 x3
  rw [hs2] at x3
  obtain ⟨W, hW⟩ : ∃ W, w3.alloc (Obj.cells #[.int .u8 t.k, .int .i64 t.n, .int .i64 t.v, .int .u8 t.c, .slice A m cp] 27) = W := ⟨_, rfl⟩
  have hb4 := below_box (w := w3) (Obj.cells #[.int .u8 t.k, .int .i64 t.n, .int .i64 t.v, .int .u8 t.c, .slice A m cp] 27)
  have x4 := blk_new w3 #[.int .u8 t.k, .int .i64 t.n, .int .i64 t.v, .int .u8 t.c, .slice A m cp] 27
  have hs4 : W.heap.size = w.heap.size + 1 + 1 + 1 + 1 := by rw [← hW]; simp [hs3]
  rw [hW] at hb4 x4
  rw [hs3] at x4
  have hb13 := hb1.trans ((hb2.trans (hb3.mono hb2.size)).mono hb1.size)
  have hb := hb13.trans (hb4.mono hb13.size)
  exact ⟨W, by rw [hw1, hw2, hw3, hW], hb, hs4, ((x1.fresh hb2).fresh hb3).fresh hb4, (x2.below hb3 (by omega)).below hb4 (by omega), x3.below hb4 (by omega), ty1_new x4 (by omega) (TysV.fresh h hb)⟩
theorem upd_set {X : Type} {P M : List X} {k : Nat} (hk : k < M.length) (hl : P.length = M.length) (h : k < P.length) : (P.take k ++ M.drop k).set k P[k] = P.take (k + 1) ++ M.drop (k + 1) := by
  have h1 : (P.take k).length = k := by rw [List.length_take]; omega
  rw [List.set_append_right _ _ (by omega), h1, Nat.sub_self, List.take_succ_eq_append_getElem h, List.append_assoc]
  congr 1
  rw [← List.getElem_cons_drop hk]
  rfl
theorem upd_get {X : Type} {P M : List X} {k : Nat} (hk : k < M.length) (hl : P.length = M.length) : ∃ h : k < (P.take k ++ M.drop k).length, (P.take k ++ M.drop k)[k] = M[k] := by
  have h1 : (P.take k).length = k := by rw [List.length_take]; omega
  have h2 : k < (P.take k ++ M.drop k).length := by rw [List.length_append, h1, List.length_drop]; omega
  refine ⟨h2, ?_⟩
  rw [List.getElem_append_right (by omega)]
  simp [h1]
theorem upd_same {X : Type} {P M : List X} {k : Nat} (hk : k < M.length) (hl : P.length = M.length) (h : k < P.length) (he : P[k] = M[k]) : P.take k ++ M.drop k = P.take (k + 1) ++ M.drop (k + 1) := by
  rw [List.take_succ_eq_append_getElem h, List.append_assoc, he]
  congr 1
  rw [← List.getElem_cons_drop hk]
  rfl
theorem putAll_get {mults more : List (Int × Int)} {j : Nat} (h : j < mults.length) (h' : j < (putAll mults more).length) : (putAll mults more)[j] = if mults[j].2 = 0 ∧ mults[j].1 < (more.length : Int) then more.getD mults[j].1.toNat (0, 0) else mults[j] := List.getElem_map _
end Go.Proofs.YtidamlkekgnhgaaDoor

