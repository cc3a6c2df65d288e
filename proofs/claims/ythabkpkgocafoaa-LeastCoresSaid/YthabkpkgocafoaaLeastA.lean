/- The queue of the solver: the contract of run's inner function. -/
import Derived.Test.YthabkpkgocafoaaIneqC
import Derived.Test.YthabkpkgocafoaaChan
namespace Go.Proofs.Ythabkpkgocafoaa
set_option linter.unusedVariables false
set_option linter.unusedSimpArgs false
open Go.RowKit Go.Conc


/-- the memory of the queue: the flags' variable gw and block W, the channel's variable gt and block C -/
structure QSt (w : World) (gw W gt C n : Nat) (flags : List Bool) (q : List Int) : Prop where
  len : flags.length = n
  bw : Blk w gw 104 #[.slice (some ⟨W, 0, none⟩) n n]
  fl : Blk w W 4 (flags.map Value.bool).toArray
  bt : Blk w gt 103 #[.chan (some C)]
  ch : ∃ s r, w.heap[C]? = some (.chan n (q.map (Value.int .i64)).toArray false s r false)

theorem Blk.chan {w : World} {g : Nat} {t : TypeId} {cs : Array Value} (h : Blk w g t cs) {C cap : Nat} (buf : Array Value) (cl : Bool) (s r : Nat) (tm : Bool) (hne : g ≠ C) : Blk (w.setChan C cap buf cl s r tm) g t cs := by
  unfold Blk at h ⊢
  simp [World.setChan, Array.getElem?_setIfInBounds, Ne.symm hne, h]
theorem QSt.ne {w : World} {gw W gt C n : Nat} {flags : List Bool} {q : List Int} (h : QSt w gw W gt C n flags q) : gw ≠ C ∧ W ≠ C ∧ gt ≠ C ∧ gt ≠ W ∧ gw ≠ W := by
  obtain ⟨_, b1, b2, b3, s, r, hc⟩ := h
  unfold Blk at b1 b2 b3
  refine ⟨?_, ?_, ?_, ?_, ?_⟩ <;> rintro rfl
  · rw [b1] at hc; cases hc
  · rw [b2] at hc; cases hc
  · rw [b3] at hc; cases hc
  · rw [b2] at b3; simp at b3
  · rw [b2] at b1; simp at b1

/-- all blocks but those of S are as they were -/
structure Off (S : List Nat) (w w' : World) : Prop where
  os : w'.os = w.os
  tape : w'.tape = w.tape
  output : w'.output = w.output
  size : w.heap.size ≤ w'.heap.size
  block : ∀ k, k < w.heap.size → k ∉ S → w'.heap[k]? = w.heap[k]?
section
variable {S : List Nat} {w w' w'' : World}
theorem Off.refl (S : List Nat) (w : World) : Off S w w := ⟨rfl, rfl, rfl, Nat.le_refl _, fun _ _ _ => rfl⟩
theorem Off.trans (h : Off S w w') (k : Off S w' w'') : Off S w w'' :=
  ⟨k.os.trans h.os, k.tape.trans h.tape, k.output.trans h.output, Nat.le_trans h.size k.size, fun i hi hs => (k.block i (Nat.lt_of_lt_of_le hi h.size) hs).trans (h.block i hi hs)⟩
theorem Off.mono {S' : List Nat} (h : Off S w w') (hs : ∀ k ∈ S, k ∈ S') : Off S' w w' := ⟨h.os, h.tape, h.output, h.size, fun k hk hn => h.block k hk fun e => hn (hs k e)⟩
theorem Off.of_below (h : Below w.heap.size w w') : Off S w w' := ⟨h.os, h.tape, h.output, h.size, fun k hk _ => h.block k hk⟩
theorem Off.set (h : Off S w w') {g : Nat} (hg : g ∈ S) (i : Nat) (u : Value) : Off S w (w'.setCell ⟨g, i, none⟩ u) :=
  ⟨h.os, h.tape, h.output, by rw [World.size_setCell]; exact h.size, fun k hk hn => (Below.heap_setCell _ _ _ _ (fun e => hn (by subst e; exact hg))).trans (h.block k hk hn)⟩
theorem Off.chan (h : Off S w w') {C cap : Nat} (hC : C ∈ S) (buf : Array Value) (cl : Bool) (s r : Nat) (tm : Bool) : Off S w (w'.setChan C cap buf cl s r tm) :=
  ⟨h.os, h.tape, h.output, by rw [size_setChan]; exact h.size, fun k hk hn => by
    have hne : C ≠ k := fun e => hn (by subst e; exact hC)
    rw [← h.block k hk hn]
    simp [World.setChan, Array.getElem?_setIfInBounds, hne]⟩
theorem Blk.off {g : Nat} {t : TypeId} {cs : Array Value} (h : Blk w g t cs) (hb : Off S w w') (hg : g ∉ S) : Blk w' g t cs := (hb.block g h.lt hg).trans h
theorem Off.below {B : Nat} (h : Off S w w') (hS : ∀ k ∈ S, B ≤ k) (hB : B ≤ w.heap.size) : Below B w w' := ⟨h.os, h.tape, h.output, h.size, fun k hk => h.block k (by omega) fun e => by have := hS k e; omega⟩
end

set_option maxRecDepth 100000 in
theorem putQ_yes (v : Nat) (gw W gt C n : Nat) (flags : List Bool) (q : List Int) (w : World) (h : QSt w gw W gt C n flags q) (hv : v < n) (hf : flags.getD v false = true) (hn : n ≤ 1048576) :
    Calls Try.prog 64 #[.int .i64 v, .pointer (some ⟨gw, 0, none⟩), .pointer (some ⟨gt, 0, none⟩)] w fun e w' => e = .returned (.tuple #[]) ∧ w = w' := by
  have hlen := h.len
  have x0 : w.cell? ⟨gw, 0, none⟩ = some (.slice (some ⟨W, 0, none⟩) n n) := h.bw.cell 0
  have x1 : w.cell? ⟨W, v, none⟩ = some (.bool true) := by
    rw [Blk.cell h.fl]
    have hv' : v < flags.length := by omega
    simp [List.getD, hv'] at hf
    simp [hv', hf]
  go_enter Try.func64, Try.ntmps64
  go_wp2_with fail
  go_end0
  exact ⟨rfl, rfl⟩

set_option maxRecDepth 100000 in
theorem putQ_no (v : Nat) (gw W gt C n : Nat) (flags : List Bool) (q : List Int) (w : World) (h : QSt w gw W gt C n flags q) (hv : v < n) (hf : flags.getD v false = false) (hn : n ≤ 1048576) (hq : q.length < n) :
    Calls Try.prog 64 #[.int .i64 v, .pointer (some ⟨gw, 0, none⟩), .pointer (some ⟨gt, 0, none⟩)] w fun e w' => e = .returned (.tuple #[]) ∧ QSt w' gw W gt C n (flags.set v true) (q ++ [(v : Int)]) ∧ Off [W, C] w w' := by
  have hlen := h.len
  have x0 : w.cell? ⟨gw, 0, none⟩ = some (.slice (some ⟨W, 0, none⟩) n n) := h.bw.cell 0
  have x1 : w.cell? ⟨W, v, none⟩ = some (.bool false) := by
    rw [Blk.cell h.fl]
    have hv' : v < flags.length := by omega
    simp [List.getD, hv'] at hf
    simp [hv', hf]
  refine calls_of_wpN Try.func64 rfl ?_
  simp only [Try.ntmps64, List.size_toArray, List.length_cons, List.length_nil, Nat.reduceAdd, Nat.reduceSub, Array.replicate_succ, Array.replicate_zero, List.push_toArray, List.append_toArray, List.nil_append, List.cons_append]
  obtain ⟨n1, n2, n3, n4, n5⟩ := h.ne
  obtain ⟨hl, b1, b2, b3, s, r, hc⟩ := h
  have f1 : w.frozen? ⟨W, v, none⟩ = false := b2.frozen v
  have c1 := b1.other (g' := W) (Ne.symm n5) v (.bool true)
  have c2 := b2.set_ v (.bool true)
  have c3 := b3.other (g' := W) (Ne.symm n4) v (.bool true)
  have y0 : (w.setCell ⟨W, v, none⟩ (.bool true)).cell? ⟨gt, 0, none⟩ = some (.chan (some C)) := c3.cell 0
  have hc1 : (w.setCell ⟨W, v, none⟩ (.bool true)).heap[C]? = some (.chan n (q.map (Value.int .i64)).toArray false s r false) := (Below.heap_setCell _ _ _ _ (Ne.symm n2)).trans hc
  have hCl : C < (w.setCell ⟨W, v, none⟩ (.bool true)).heap.size := (Array.getElem?_eq_some_iff.1 hc1).1
  refine wpN_seq_k (fun K hK => ?_)
  go_wp2_with fail
  refine hK.out _ _ ?_
  clear hK K
  refine wpN_cond (t := true) rfl ?_
  simp only [if_true]
  refine wpN_seq_k (fun K hK => ?_)
  go_wp2_with fail
  refine hK.out _ _ ?_
  clear hK K
  refine wpN_region ?_
  show opsN _ _ _ [0, 1, 2] _ _
  have ho : Off [W, C] w (w.setCell ⟨W, v, none⟩ (.bool true)) := (Off.refl _ _).set (by simp) _ _
  generalize w.setCell ⟨W, v, none⟩ (.bool true) = w1 at c1 c2 c3 y0 hc1 hCl ho ⊢
  refine opsN_value (v := .chan (some C)) (w' := w1) rfl rfl ?_ ?_
  · go_simp
  simp only [Act.put, List.setIfInBounds_toArray, List.set_cons_zero, List.set_cons_succ]
  refine opsN_value (v := .int .i64 v) (w' := w1) rfl rfl ?_ ?_
  · go_simp
  simp only [Act.put, List.setIfInBounds_toArray, List.set_cons_zero, List.set_cons_succ]
  refine opsN_send (c := C) (v := .int .i64 v) (z' := .tuple #[]) (w₁ := w1) rfl rfl ?_ hc1 (by simpa using hq) ?_
  · rfl
  refine opsN_nil ?_
  refine bodyPost_end (results_none rfl _ _ _) rfl ⟨rfl, ?_, ho.chan (by simp) _ _ _ _ _⟩
  refine ⟨by simp [hl], c1.chan _ _ _ _ _ n1, ?_, c3.chan _ _ _ _ _ n3, s + 1, r, ?_⟩
  · have := c2.chan (C := C) (cap := n) (((q.map (Value.int .i64)).toArray).push (.int .i64 v)) false (s + 1) r false n2
    rw [List.map_set]
    simpa using this
  · rw [heap_setChan _ _ _ _ _ _ _ _ hCl]
    simp

end Go.Proofs.Ythabkpkgocafoaa
