/- Texts of this claim, laid one behind the other: ElimM, ElimS, ElimN. -/
import Derived.Test.YthabkpkgocafoaaEaB
import Derived.Test.YthabkpkgocafoaaEaE
import Derived.RangeFuncWrites
import Derived.Test.YthabkpkgocafoaaMem
import Derived.ArgAppend
import Derived.OwnWalkIn
/- The web of the inequalities in memory: a slice of slices that own their rows. -/
namespace Go.Proofs.Ythabkpkgocafoaa
set_option linter.unusedVariables false
set_option linter.unusedSimpArgs false
open Go.RowKit Go.Conc

/-- block F holds a slice for each variable; their rows lie at or above base, each in a block of its own -/
structure WebM (w : World) (F base : Nat) (vs : List Value) (fr : Nat → List IneqD) : Prop where
  blk : Blk w F 35 vs.toArray
  low : F < base
  own : ∀ j (h : j < vs.length), w.ownsRow base 31 4 vs[j] (fr j).length (cellsQ (fr j))
  sep : ∀ i j b (hi : i < vs.length) (hj : j < vs.length), vs[i].ownBlock = some b → vs[j].ownBlock = some b → i = j
section
variable {w w' : World} {F base : Nat} {vs : List Value} {fr : Nat → List IneqD}
theorem WebM.off {S : List Nat} (h : WebM w F base vs fr) (ho : Off S w w') (hF : F ∉ S) (hS : ∀ s ∈ S, s < base) : WebM w' F base vs fr :=
  ⟨h.blk.off ho hF, h.low, fun j hj => ownsRow_block (h.own j hj) fun b hb => by
    have := ownsRow_lt (h.own j hj) hb
    exact ho.block b this.2 fun e => by have := hS b e; omega, h.sep⟩
theorem WebM.cell (h : WebM w F base vs fr) (j : Nat) (hj : j < vs.length) : w.cell? ⟨F, j, none⟩ = some vs[j] := by
  rw [Blk.cell h.blk]
  simp [hj]
theorem WebM.frozen (h : WebM w F base vs fr) (j : Nat) : w.frozen? ⟨F, j, none⟩ = false := h.blk.frozen j
theorem WebM.row (h : WebM w F base vs fr) (j : Nat) (hj : j < vs.length) : ∃ A c, vs[j] = .slice A (fr j).length c ∧ IneqsV w w.heap.size A (fr j).length c (fr j) := by
  have ho := h.own j hj
  obtain ⟨A, c, e⟩ := ownsRow_form ho
  rw [e] at ho
  exact ⟨A, c, e, IneqsV.of_own4 ho⟩
/-- an element more, and its slice laid into its cell -/
theorem WebM.add (h : WebM w F base vs fr) {j : Nat} (hj : j < vs.length) {v' : Value} {u : IneqD} (ho : w'.ownsRow base 31 4 v' ((fr j).length + 1) (cellsQ (fr j) ++ cellsQ [u])) (hg : w.grownBy w' vs[j].ownBlock) (hn : v'.ownBlock = vs[j].ownBlock ∨ v'.ownBlock = some w.heap.size) :
    WebM (w'.setCell ⟨F, j, none⟩ v') F base (vs.set j v') (fun k => if k = j then fr j ++ [u] else fr k) := by
  have hFl := h.blk.lt
  refine ⟨?_, h.low, fun k hk => ?_, fun i k b hi hk ei ek => ?_⟩
  · have := (h.blk.grown hg (fun e => by have := ownsRow_lt (h.own j hj) e.symm; have := h.low; omega)).set_ j v'
    simpa using this
  · have hk' : k < vs.length := by simpa using hk
    by_cases e : k = j
    · subst e
      rw [List.getElem_set, if_pos rfl]
      simp only [if_true]
      have := ownsRow_setCell_below ho (a := ⟨F, k, none⟩) h.low v'
      rw [cellsQ_append, List.length_append]
      exact this
    · rw [List.getElem_set, if_neg (fun q => e q.symm)]
      simp only [if_neg e]
      have hold := h.own k hk'
      refine ownsRow_setCell_below (ownsRow_block hold fun b hb => ?_) (a := ⟨F, j, none⟩) h.low v'
      have hlt := ownsRow_lt hold hb
      exact hg.block b hlt.2 fun e' => e (h.sep k j b hk' hj hb e'.symm)
  · have hi' : i < vs.length := by simpa using hi
    have hk' : k < vs.length := by simpa using hk
    rw [List.getElem_set] at ei ek
    by_cases e1 : j = i
    · by_cases e2 : j = k
      · omega
      · rw [if_pos e1] at ei
        rw [if_neg e2] at ek
        exfalso
        rcases hn with q | q
        · rw [q] at ei
          exact e2 (h.sep j k b hj hk' ei ek)
        · rw [q] at ei
          have := ownsRow_lt (h.own k hk') ek
          simp at ei
          omega
    · rw [if_neg e1] at ei
      by_cases e2 : j = k
      · rw [if_pos e2] at ek
        exfalso
        rcases hn with q | q
        · rw [q] at ek
          exact e1 (h.sep j i b hj hi' ek ei)
        · rw [q] at ek
          have := ownsRow_lt (h.own i hi') ei
          simp at ek
          omega
      · rw [if_neg e2] at ek
        exact h.sep i k b hi' hk' ei ek
end

end Go.Proofs.Ythabkpkgocafoaa

/- A range over a function whose iterator keeps cells of its own; the body has no way out but its end. -/
namespace Go.Proofs.Ythabkpkgocafoaa
set_option linter.unusedVariables false
set_option linter.unusedSimpArgs false
open Go.RowKit

/-- all cells but those of these blocks stand -/
def KeepC (S : List Nat) (A B : World) : Prop := ∀ k o, A.heap[k]? = some o → o.isCells = true → k ∉ S → B.heap[k]? = some o
theorem KeepC.refl (S : List Nat) (A : World) : KeepC S A A := fun _ _ h _ _ => h
theorem KeepC.trans {S : List Nat} {A B C : World} (h : KeepC S A B) (k : KeepC S B C) : KeepC S A C := fun i o hi hc hs => k i o (h i o hi hc hs) hc hs
theorem KeepC.record {S : List Nat} {A : World} {l : Nat} {o : Obj} (h : A.heap[l]? = some o) (hc : o.isCells = false) (o' : Obj) : KeepC S A (A.putObj l o') := fun k o2 hk hc2 _ => by
  by_cases e : k = l
  · subst e
    rw [h] at hk
    injection hk with hk
    subst hk
    rw [hc] at hc2
    cases hc2
  · exact (World.putObj_heap_other e).trans hk
theorem KeepC.cell {S : List Nat} {A B : World} (h : KeepC S A B) {g : Nat} {t : TypeId} {cs : Array Value} (hb : Blk A g t cs) (hs : g ∉ S) : Blk B g t cs := h g _ hb rfl hs
theorem KeepC.setCell {S : List Nat} {A : World} {p : Addr} (hp : p.block ∈ S) (u : Value) : KeepC S A (A.setCell p u) := fun k o hk _ hs => by
  rw [Below.heap_setCell _ _ _ _ (fun e => hs (by rw [e]; exact hp))]
  exact hk
theorem KeepC.alloc {S : List Nat} {A : World} (o : Obj) : KeepC S A (A.alloc o) := fun k o2 hk _ _ => (Below.heap_alloc A o k (Array.getElem?_eq_some_iff.1 hk).1).trans hk

/-- an iterator that may write whatever lay not yet where it was called -/
def SeqC {α : Type} (F : Fence) (n : Nat) (P : Program) (g : Nat) (lb : Array Value) (encs : α → Array Value) (Kp : World → World → Prop) (S : List α → Prop) (N : Nat) (w : World) : Prop :=
  ∀ (l : Nat) (J : List α → World → Prop) (W : World), Below w.heap.size w W → (∀ pre A B, J pre A → Below W.heap.size A B → J pre B) →
    (∀ pre x A, J pre A → pre.length < N → YieldAt F (n - 1) P l (encs x) A fun e B => e = .returned (.bool true) ∧ J (pre ++ [x]) B ∧ Kp A B) →
    J [] W → CallsIn F n P g (#[.func (.yield l) #[] #[]] ++ lb) W fun e W' => (∃ v, e = .returned v) ∧ ∃ xs, S xs ∧ J xs W'
/-- how a body's round ends -/
def endC {α : Type} (m : Nat) (Kp : World → World → Prop) (I : List α → World → Prop) (xs : List α) (W : World) : Exit → Act → World → Prop
  | .normal, _, W' => (∀ k, k = m ∨ k = m + 1 → W'.heap[k]? = W.heap[k]?) ∧ Kp W W' ∧ I xs W'
  | _, _, _ => False
theorem wpIn_range_cells {α : Type} {F : Fence} {n : Nat} {P : Program} {g : Operand} {ps : Array Tmp} {assign body : Code} {Q : Exit → Act → World → Prop} {a : Act} {w : World}
    (hro : F.round = none) (h1 : 1 ≤ n) {gf : Nat} {lb : Array Value} (hg : a.eval g = .func (.func gf) #[] lb) (hF : F.fn gf) (eg : ∀ args w, (callFunc gf args).run P w = .ok (.enter gf args) w)
    {encs : α → Array Value} {Kp : World → World → Prop} {S : List α → Prop} {N : Nat} {w0 : World} (hseq : SeqC F (n - 1) P gf lb encs Kp S N w0)
    (hKt : ∀ {A B C : World}, Kp A B → Kp B C → Kp A C) (hKb : ∀ (A : World) (o o' : Obj), A.heap[w.heap.size + 1]? = some o → o.isCells = false → Kp A (A.putObj (w.heap.size + 1) o')) (hb0 : Below w0.heap.size w0 w) (hps : ∀ x, (encs x).size = ps.size)
    (I : List α → World → Prop) (hI : ∀ pre A B, I pre A → Below w.heap.size A B → I pre B) (h0 : I [] w)
    (hround : ∀ (l : Nat) (pre : List α) (x : α) (A B : World), w.heap.size + 1 < B.heap.size → I pre B → pre.length < N → assign.wpIn (F.inRound l) (n - 1 - 1) P (Exit.then (fun a' W' => W' = A ∧ body.wpIn (F.inRound l) (n - 1 - 1) P (endC w.heap.size Kp I (pre ++ [x]) B) a' B) (fun _ _ _ => False)) { tmps := (ps.zip (encs x)).foldl (fun t (p, v) => t.setIfInBounds p v) a.tmps, defers := [] } A)
    (hdone : ∀ (xs : List α) (W : World), S xs → I xs W → W.heap[w.heap.size]? = some (.deferred (some [])) → Q .normal { a with defers := { target := .collected w.heap.size, args := #[] } :: a.defers } W) :
    (Code.rangeFunc g ps assign body).wpIn F n P Q a w := by
  refine wpIn_rangeFunc fun fn hfn => ?_
  rw [hro]
  obtain ⟨R, hR⟩ : ∃ R : LoopState → Loop, R = fun st => { state := st, pending := none, fn, tmps := a.tmps, params := ps, assign, body, defers := w.heap.size } := ⟨_, rfl⟩
  obtain ⟨W1, hW1⟩ : ∃ W1, (w.alloc (.deferred (some []))).alloc (.loop (R .ready)) = W1 := ⟨_, rfl⟩
  have hsz : W1.heap.size = w.heap.size + 1 + 1 := by rw [← hW1]; simp
  have hbel : Below w.heap.size w W1 := by rw [← hW1]; exact ((Below.refl _ w).alloc (Nat.le_refl _) _).alloc (by simp) _
  have hL : W1.heap[w.heap.size + 1]? = some (.loop (R .ready)) := by
    rw [← hW1]
    have := World.alloc_heap_new (w.alloc (.deferred (some []))) (.loop (R .ready))
    rwa [World.size_alloc] at this
  have hD : W1.heap[w.heap.size]? = some (.deferred (some [])) := by
    rw [← hW1]
    exact (Below.heap_alloc _ _ _ (by simp)).trans (World.alloc_heap_new w _)
  have hput : ∀ (A : World) (o' : Obj), w.heap.size + 1 < A.heap.size → Below w.heap.size A (A.putObj (w.heap.size + 1) o') := fun A o' h => (Below.refl _ A).grown (grownBy_putObj' A _ o') (by omega) (fun k e => by cases e; omega)
  refine ⟨w.heap.size + 1, [{ target := .collected w.heap.size, args := #[] }], W1, { target := .fn (.func gf) lb, args := #[.func (.yield (w.heap.size + 1)) #[] #[]] }, W1, gf, #[.func (.yield (w.heap.size + 1)) #[] #[]] ++ lb, W1, by rw [← hW1, hR]; exact run_enterLoop_outer _ _ _ _ _, by simp only [resolve, hg]; simp [go_sem], fun f' hf' => by simp [Target.leads] at hf'; subst hf'; exact hF, by simp [invoke, go_sem, eg], fun _ => h1, ?_⟩
  refine (hseq (w.heap.size + 1) (fun pre W => I pre W ∧ W.heap[w.heap.size + 1]? = some (.loop (R .ready)) ∧ W.heap[w.heap.size]? = some (.deferred (some []))) W1 (hb0.trans (hbel.mono hb0.size)) (fun pre A B h hb => ?_) (fun pre x A h hlen => ?_) ⟨hI _ _ _ h0 hbel, hL, hD⟩).mono ?_
  · rw [hsz] at hb
    exact ⟨hI _ _ _ h.1 (hb.mono (by omega)), (hb.block _ (by omega)).trans h.2.1, (hb.block _ (by omega)).trans h.2.2⟩
  · -- one round
    obtain ⟨hi, hl, hd⟩ := h
    have hlt : w.heap.size + 1 < A.heap.size := (Array.getElem?_eq_some_iff.1 hl).1
    have hy := run_yield (P := P) (args := encs x) hl (by rw [hR]; exact hps x)
    rw [hR] at hy
    obtain ⟨B, hB⟩ : ∃ B, A.putObj (w.heap.size + 1) (.loop (R .busy)) = B := ⟨_, rfl⟩
    have hBl : B.heap[w.heap.size + 1]? = some (.loop (R .busy)) := by rw [← hB]; exact World.putObj_heap_same hlt
    have hBd : B.heap[w.heap.size]? = some (.deferred (some [])) := by rw [← hB]; exact (World.putObj_heap_other (by omega)).trans hd
    have hBi : I pre B := by rw [← hB]; exact hI _ _ _ hi (hput A _ hlt)
    have hBk : Kp A B := by rw [← hB]; exact hKb A _ _ hl rfl
    have hBs : w.heap.size + 1 < B.heap.size := (Array.getElem?_eq_some_iff.1 hBl).1
    refine ⟨fn, _, assign, body, hy, roundIn_of_wpIn hfn (wpIn_mono (hround _ pre x A B hBs hBi hlen) ?_)⟩
    rintro e a2 A2 hp
    cases e with
    | normal =>
      obtain ⟨rfl, hbody⟩ := hp
      refine ⟨B, ?_, wpIn_mono hbody ?_⟩
      · rw [← hB, run_beginRound hl (by rw [hR]), hR]
      rintro e a3 C hp
      cases e with
      | normal =>
        obtain ⟨hk3, hkp, hi3⟩ := hp
        have hCl : C.heap[w.heap.size + 1]? = some (.loop (R .busy)) := (hk3 _ (.inr rfl)).trans hBl
        have hCd : C.heap[w.heap.size]? = some (.deferred (some [])) := (hk3 _ (.inl rfl)).trans hBd
        have hCs : w.heap.size + 1 < C.heap.size := (Array.getElem?_eq_some_iff.1 hCl).1
        have he := run_endRound (P := P) none hCl
        have hRr : ({ R .busy with state := if (none : Option Code).isNone then LoopState.ready else LoopState.done, pending := none } : Loop) = R .ready := by rw [hR]; rfl
        rw [hRr] at he
        exact ⟨_, _, he, rfl, ⟨hI _ _ _ hi3 (hput C _ hCs), World.putObj_heap_same hCs, (World.putObj_heap_other (by omega)).trans hCd⟩, hKt (hKt hBk hkp) (hKb C _ _ hCl rfl)⟩
      | ret => exact hp.elim
      | exit id => exact hp.elim
      | goto t => exact hp.elim
      | panic ch => exact hp.elim
      | outgrown => exact hp.elim
    | ret => exact hp.elim
    | exit id => exact hp.elim
    | goto t => exact hp.elim
    | panic ch => exact hp.elim
    | outgrown => exact hp.elim
  · -- behind the iterator
    rintro e W2 ⟨⟨v, rfl⟩, xs, hS, hi, hl, hd⟩
    have hlt : w.heap.size + 1 < W2.heap.size := (Array.getElem?_eq_some_iff.1 hl).1
    have he := run_endLoop (P := P) hl (by rw [hR]; simp)
    refine ⟨none, _, by rw [hR] at he; exact he, hdone xs _ hS (hI _ _ _ hi (hput W2 _ hlt)) ((World.putObj_heap_other (by omega)).trans hd)⟩
end Go.Proofs.Ythabkpkgocafoaa

/- A queue of ints: a slice in a row of the call's own, whose head moves on; append to it, within a fence. -/
namespace Go.Proofs.Ythabkpkgocafoaa
set_option linter.unusedVariables false
set_option linter.unusedSimpArgs false
open Go.RowKit

def QueueM (w : World) (base : Nat) (v : Value) (xs : List Int) : Prop :=
  ∃ (b off cap : Nat) (cs : Array Value), v = .slice (some ⟨b, off, none⟩) xs.length cap ∧ base ≤ b ∧ Blk w b 3 cs ∧ off + cap ≤ cs.size ∧ xs.length ≤ cap ∧ off + cap ≤ maxLen ∧ ∀ j (h : j < xs.length), cs[off + j]? = some (.int .i64 xs[j])
section
variable {w w' : World} {base : Nat} {v : Value} {xs : List Int}
theorem QueueM.lt (h : QueueM w base v xs) {b : Nat} (hb : v.ownBlock = some b) : base ≤ b ∧ b < w.heap.size := by
  obtain ⟨b', off, cap, cs, rfl, h1, h2, _⟩ := h
  have : b' = b := by simpa [Value.ownBlock] using hb
  subst this
  exact ⟨h1, h2.lt⟩
theorem QueueM.keep (h : QueueM w base v xs) (hk : ∀ b, v.ownBlock = some b → w'.heap[b]? = w.heap[b]?) : QueueM w' base v xs := by
  obtain ⟨b, off, cap, cs, rfl, h1, h2, h3⟩ := h
  exact ⟨b, off, cap, cs, rfl, h1, (hk b rfl).trans h2, h3⟩
theorem QueueM.own {n : Nat} (h : w.ownsRow base 3 1 v n (xs.map (Value.int .i64))) (h0 : 0 < n) : QueueM w base v xs := by
  obtain ⟨hl, h⟩ := h
  rw [List.length_map, Nat.mul_one] at hl
  rcases h with ⟨_, h⟩ | ⟨g, cap, cur, rfl, h1, h2, h3, h4, h5, h6⟩
  · omega
  · refine ⟨g, 0, cap, cur, by rw [hl], h1, h2, by omega, by omega, by omega, fun j hj => ?_⟩
    have h7 : (cur.toList.take (n * 1))[j]? = some (Value.int .i64 xs[j]) := by rw [h6, List.getElem?_map, List.getElem?_eq_getElem hj]; rfl
    rw [List.getElem?_take_of_lt (by omega)] at h7
    simpa using h7
theorem QueueM.cells (h : QueueM w base v xs) : ∃ b off cap, v = .slice (some ⟨b, off, none⟩) xs.length cap ∧ xs.length ≤ cap ∧ cap ≤ maxLen ∧ ∀ j (h : j < xs.length), w.cell? ⟨b, off + j, none⟩ = some (.int .i64 xs[j]) := by
  obtain ⟨b, off, cap, cs, rfl, h1, h2, h3, h4, h5, h6⟩ := h
  exact ⟨b, off, cap, rfl, h4, by omega, fun j hj => by rw [Blk.cell h2, h6 j hj]⟩
/-- the head is gone -/
theorem QueueM.tail {x : Int} {b off n cap : Nat} (h : QueueM w base (.slice (some ⟨b, off, none⟩) (n + 1) cap) (x :: xs)) : QueueM w base (.slice (some ⟨b, off + 1, none⟩) n (cap - 1)) xs := by
  obtain ⟨b', off', cap', cs, e, h1, h2, h3, h4, h5, h6⟩ := h
  injection e with e1 e2 e3
  injection e1 with e1
  injection e1 with e1 e4
  subst e1; subst e3; subst e4
  have hn : n = xs.length := by simpa using e2
  rw [List.length_cons] at h4
  refine ⟨b, off + 1, cap - 1, cs, by rw [hn], h1, h2, by omega, by omega, by omega, fun j hj => ?_⟩
  have := h6 (j + 1) (by simp; omega)
  rw [show off + 1 + j = off + (j + 1) from by omega, this]
  simp
theorem QueueM.last {x : Int} {b off n : Nat} (h : QueueM w base (.slice (some ⟨b, off, none⟩) (n + 1) 1) (x :: xs)) : QueueM w base (.slice (some ⟨b, off, none⟩) n 0) xs := by
  obtain ⟨b', off', cap', cs, e, h1, h2, h3, h4, h5, h6⟩ := h
  injection e with e1 e2 e3
  injection e1 with e1
  injection e1 with e1 e4
  subst e1; subst e3; subst e4
  have hn : n = xs.length := by simpa using e2
  rw [List.length_cons] at h4
  exact ⟨b, off, 0, cs, by rw [hn], h1, h2, by omega, by omega, by omega, fun j hj => by omega⟩
theorem run_append_queue {P : Program} (h : QueueM w base v xs) (t ty : TypeId) (i : TypeInfo) (z : Value) (bytes : Nat) (ht : P.underlying t = some (.slice 3)) (hi : P.info? 3 = some i) (hz : i.zero = some z)
    (hsize : i.size = 1) (hby : i.bytes = bytes) (hzs : z.cells.size = 1) (ad : Addr) (u : Int) (hx : w.cell? (ad.add 0) = some (.int .i64 u)) (h63 : xs.length + 1 ≤ maxLen) (hbytes : (xs.length + 1) * bytes ≤ 140737488355328) (hbase : base ≤ w.heap.size) :
    ∃ v' w', (Builtin.append_ #[t, t] ty #[v, .slice (some ad) 1 1]).run P w = .ok v' w' ∧ QueueM w' base v' (xs ++ [u]) ∧ w.grownBy w' v.ownBlock ∧ (v'.ownBlock = v.ownBlock ∨ ∃ k, v'.ownBlock = some k ∧ w.heap.size ≤ k) := by
  obtain ⟨b, off, cap, cs, rfl, h1, h2, h3, h4, h5, h6⟩ := h
  have hnews : ∀ j u', [Value.int .i64 u][j]? = some u' → w.cell? (ad.add j) = some u' := fun j u' hu => by
    match j, hu with
    | 0, hu => simp at hu; rw [← hu]; exact hx
    | j + 1, hu => simp at hu
  by_cases hroom : xs.length + 1 ≤ cap
  · have hr := run_append_room_cells (P := P) w t ty 3 i ht hi b off xs.length cap ad 1 1 [.int .i64 u] (by simp [hsize]) hnews (by intro u' hu'; simp at hu'; subst hu'; rfl) hroom
      (fun j hj => by
        have hj0 : j = 0 := by simpa using hj
        subst hj0
        rw [Blk.cell h2, hsize, Nat.mul_one, Nat.add_zero, Array.getElem?_eq_getElem (by omega)]; rfl)
      (fun j hj => h2.frozen _)
    refine ⟨_, _, hr, ?_, ?_, .inl rfl⟩
    · rw [hsize, Nat.mul_one]
      refine ⟨b, off, cap, cs.setIfInBounds (off + xs.length) (.int .i64 u), by simp, h1, ?_, by simpa using h3, by simp; omega, h5, fun j hj => ?_⟩
      · exact h2.set_ _ _
      · rw [List.length_append] at hj
        simp only [List.length_cons, List.length_nil] at hj
        by_cases e : j = xs.length
        · subst e
          simp [Array.getElem?_setIfInBounds]
          omega
        · have hj' : j < xs.length := by omega
          have := h6 j hj'
          simp [Array.getElem?_setIfInBounds]
          rw [if_neg (by omega), this, List.getElem_append_left hj']
    · rw [hsize, Nat.mul_one]
      refine ⟨rfl, rfl, rfl, ?_, fun k hk hne => ?_⟩
      · show _ ≤ (w.setCell _ _).heap.size
        rw [World.size_setCell]; exact Nat.le_refl _
      · show (w.setCell _ _).heap[k]? = _
        exact Below.heap_setCell _ _ _ _ fun e => hne (by simp [Value.ownBlock]; exact e)
  · have hlo : (xs.map (Value.int .i64)).length = xs.length * 1 := by simp
    obtain ⟨v', w', hr, ho, hg⟩ := run_append_arg_grows (P := P) w t ty 3 i z 1 bytes ht hi hz hsize hby hzs (by omega) ⟨b, off, none⟩ xs.length cap (xs.map (Value.int .i64)) hlo
      (fun j u' hu => by
        have hj : j < xs.length := by have := (List.getElem?_eq_some_iff.1 hu).1; simpa using this
        rw [Addr.add_lit]
        show w.cell? ⟨b, off + j, none⟩ = some u'
        rw [Blk.cell h2, h6 j hj]
        rw [List.getElem?_map, List.getElem?_eq_getElem hj] at hu
        simpa using hu)
      ad 1 1 [.int .i64 u] (by simp) hnews (by omega) h63 hbytes
    have hq : QueueM w' w.heap.size v' (xs ++ [u]) := QueueM.own (n := xs.length + 1) (by rw [List.map_append]; exact ho) (by omega)
    refine ⟨v', w', hr, ?_, ⟨hg.os, hg.tape, hg.output, hg.size, fun k hk _ => hg.block k hk (by simp)⟩, ?_⟩
    · obtain ⟨b', o', c', cs', e, q1, q2⟩ := hq
      exact ⟨b', o', c', cs', e, by omega, q2⟩
    · obtain ⟨b', o', c', cs', e, q1, q2, _⟩ := hq
      exact .inr ⟨b', by rw [e]; rfl, q1⟩
/-- append to a queue, within a fence -/
theorem wpListIn_append_queue {F : Fence} {n : Nat} {P : Program} (w : World) {ops : Array Oper} {rest : List Oper} {o : Oper} {a : Act} {Q : Exit → Act → World → Prop}
    (hg : o.guard = none) (s x : Operand) (t : TypeId) (hop : o.op = Op.call { callee := Callee.builtin Builtin.append, args := #[s, x], argTypes := #[t, t] })
    (base : Nat) (i : TypeInfo) (z : Value) (bytes : Nat) (h1 : P.underlying t = some (.slice 3)) (h2 : P.info? 3 = some i) (h3 : i.zero = some z) (h4 : i.size = 1) (h5 : i.bytes = bytes) (h6 : z.cells.size = 1)
    (v : Value) (xs : List Int) (hs : a.eval s = v) (hq : QueueM w base v xs) (ad : Addr) (u : Int) (hx : a.eval x = .slice (some ad) 1 1) (hu : w.cell? (ad.add 0) = some (.int .i64 u)) (b1 : xs.length + 1 ≤ maxLen) (b2 : (xs.length + 1) * bytes ≤ 140737488355328) (b3 : base ≤ w.heap.size)
    (hK : ∀ v' w', QueueM w' base v' (xs ++ [u]) → w.grownBy w' v.ownBlock → (v'.ownBlock = v.ownBlock ∨ ∃ k, v'.ownBlock = some k ∧ w.heap.size ≤ k) → wpListIn F n P ops Q rest (a.put o.dst v') w') :
    wpListIn F n P ops Q (o :: rest) a w := by
  refine wpListIn_plain hg fun K hK' => ?_
  obtain ⟨v', w', hrun, r1, r2, r3⟩ := run_append_queue (P := P) hq t o.type i z bytes h1 h2 h3 h4 h5 h6 ad u hu b1 b2 b3
  unfold Oper.wpIn
  refine ⟨?_, ?_⟩
  · simp [Oper.about, hop, resolve, Target.leads, Sem.run_pure]
  · rw [Oper.semAt_plain F _ _ (by rw [hop]; intro c hc'; cases hc')]
    simp [execOp, hop, resolve, invoke, builtin, hs, hx, hrun, Result.andThen]
    exact hK' _ _ (hK v' w' r1 r2 r3)
end
end Go.Proofs.Ythabkpkgocafoaa

