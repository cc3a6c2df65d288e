/- Texts of this claim, laid one behind the other: Chan, LeastA, LeastB, LeastC, LeastD, LeastM, LeastP, LeastQ, LeastR, LeastN, LeastO, LeastU, LeastW, LeastX. -/
import Derived.Conc.LoneCalls
import Derived.Lib.Hide
import Derived.Test.YthabkpkgocafoaaEaA
import Derived.Deep.QuietTactic
import Derived.BigQuiet
import Derived.Lib.QuietBelow
import Derived.Deep.RegionHeld3
import Derived.Laws.MakeOwn
import Derived.Conc.SmallLaws
/- A walk that meets channels in one goroutine: the kit's rules over again for frames that are no early ones, with a send that has room and a receive that finds something. No program in sight. -/
namespace Go.Proofs.Ythabkpkgocafoaa
set_option linter.unusedVariables false
set_option linter.unusedSimpArgs false
open Go.RowKit Go.Conc

section
variable {P : Program} {Q : Exit → Act → World → Prop} {a : Act} {w : World}

/-- as Code.wp, but for early frames -/
def wpN (P : Program) (c : Code) (Q : Exit → Act → World → Prop) (a : Act) (w : World) : Prop :=
  ∀ (b : Frame) (k : List Item) (cs : List Frame), b.kind ≠ .early →
    ∃ e a' w', Q e a' w' ∧ Arrives P (lone (b.at a (.code c :: k)) cs w) b k cs e a' w'
theorem wpN_of_wp {c : Code} (h : c.wp P Q a w) : wpN P c Q a w := fun b k cs _ => h b k cs
theorem wpN_seq {x y : Code} (h : wpN P x (Exit.then (wpN P y Q) Q) a w) : wpN P (Code.seq x y) Q a w := by
  intro b k cs hb
  obtain ⟨e, a₁, w₁, hq, harr⟩ := h b (.code y :: k) cs hb
  cases e with
  | normal =>
    obtain ⟨e₂, a₂, w₂, hq₂, harr₂⟩ := hq b k cs hb
    exact ⟨e₂, a₂, w₂, hq₂, .of_steps (.head step_seq harr) harr₂⟩
  | exit id => exact ⟨_, a₁, w₁, hq, .of_steps (.one step_seq) (.pass (x := .code y) rfl (fun _ _ => .inl (by simp)) harr)⟩
  | goto l => exact ⟨_, a₁, w₁, hq, .of_steps (.one step_seq) (.pass (x := .code y) rfl (fun _ _ => .inl (by simp)) harr)⟩
  | ret => exact ⟨_, a₁, w₁, hq, .of_steps (.one step_seq) (.pass (x := .code y) rfl (fun _ _ => .inl (by simp)) harr)⟩
  | panic ch => exact ⟨_, a₁, w₁, hq, .of_steps (.one step_seq) (.pass (x := .code y) rfl (fun _ _ => .inl (by simp)) harr)⟩
  | outgrown => exact ⟨_, a₁, w₁, hq, .of_steps (.one step_seq) (.pass (x := .code y) rfl (fun _ _ => .inl (by simp)) harr)⟩
/-- the first part is walked as ever -/
theorem wpN_seq_k {x y : Code} (h : ∀ K : Act → World → Prop, Hid (∀ a w, wpN P y Q a w → K a w) → x.wp P (Exit.then K Q) a w) : wpN P (Code.seq x y) Q a w :=
  wpN_seq (wpN_of_wp (h _ fun _ _ h => h))
theorem wpN_cond {c : Operand} {x y : Code} {t : Bool} (hc : a.eval c = .bool t) (h : wpN P (if t then x else y) Q a w) : wpN P (Code.cond c x y) Q a w :=
  fun b k cs hb => let ⟨e, a', w', q, r⟩ := h b k cs hb; ⟨e, a', w', q, .of_steps (.one (step_cond hc)) r⟩
theorem wpN_block {id : Nat} {c : Code} (h : wpN P c (Exit.inBlock id Q) a w) : wpN P (Code.block id c) Q a w := by
  intro b k cs hb
  obtain ⟨e, a₁, w₁, hq, harr⟩ := h b (.inBlock id :: k) cs hb
  cases e with
  | normal => exact ⟨.normal, a₁, w₁, hq, .head step_block (Steps.trans harr (.one step_inBlock))⟩
  | exit id' =>
    by_cases hid : id' = id
    · simp only [Exit.inBlock, hid, if_true] at hq
      exact ⟨.normal, a₁, w₁, hq, .head step_block (harr k (by simp [exitTo, hid]))⟩
    · simp only [Exit.inBlock, hid, if_false] at hq
      refine ⟨.exit id', a₁, w₁, hq, fun k' hk => .head step_block (harr k' ?_)⟩
      have : (id == id') = false := by simp; exact fun h => hid h.symm
      simp [exitTo, this, hk]
  | goto l => exact ⟨_, a₁, w₁, hq, fun k' hk => .head step_block (harr k' (by simp [gotoIn, hk]))⟩
  | ret => exact ⟨_, a₁, w₁, hq, .of_steps (.one step_block) harr⟩
  | panic ch => exact ⟨_, a₁, w₁, hq, .of_steps (.one step_block) harr⟩
  | outgrown => exact ⟨_, a₁, w₁, hq, .of_steps (b := b) (k := k) (cs := cs) (e := .outgrown) (.one step_block) harr⟩
/-- a loop, by a number that goes down -/
theorem wpN_loop {c : Code} (I : Nat → Act → World → Prop) (n₀ : Nat) (h₀ : I n₀ a w)
    (round : ∀ n a w, I n a w → wpN P c (Exit.then (fun a' w' => ∃ n', n' < n ∧ I n' a' w') Q) a w) : wpN P (Code.loop c) Q a w := by
  intro b k cs hb
  have key : ∀ n a w, I n a w →
      ∃ e a' w', Q e a' w' ∧ Arrives P (lone (b.at a (.code c :: .inLoop c :: k)) cs w) b k cs e a' w' := by
    intro n
    induction n using Nat.strongRecOn with
    | _ n ih =>
      intro a w hI
      obtain ⟨e, a₁, w₁, hq, harr⟩ := round n a w hI b (.inLoop c :: k) cs hb
      cases e with
      | normal =>
        obtain ⟨n', hlt, hI₁⟩ := hq
        obtain ⟨e₂, a₂, w₂, hq₂, harr₂⟩ := ih n' hlt a₁ w₁ hI₁
        exact ⟨e₂, a₂, w₂, hq₂, .of_steps (Steps.trans harr (.one step_inLoop)) harr₂⟩
      | exit id => exact ⟨_, a₁, w₁, hq, .pass (x := .inLoop c) rfl (fun _ _ => .inl (by simp)) harr⟩
      | goto l => exact ⟨_, a₁, w₁, hq, .pass (x := .inLoop c) rfl (fun _ _ => .inl (by simp)) harr⟩
      | ret => exact ⟨_, a₁, w₁, hq, .pass (x := .inLoop c) rfl (fun _ _ => .inl (by simp)) harr⟩
      | panic ch => exact ⟨_, a₁, w₁, hq, .pass (x := .inLoop c) rfl (fun _ _ => .inl (by simp)) harr⟩
      | outgrown => exact ⟨_, a₁, w₁, hq, .pass (x := .inLoop c) rfl (fun _ _ => .inl (by simp)) harr⟩
  obtain ⟨e, a', w', hq, harr⟩ := key n₀ a w h₀
  exact ⟨e, a', w', hq, .of_steps (.one step_loop) harr⟩
theorem calls_of_wpN {f : FuncId} {fn : Func} {c : Code} {args : Array Value} {R : Ending → World → Prop}
    (hf : P.funcs[f]? = some fn) (hb : fn.body = some c)
    (h : wpN P c (bodyPost P fn R) { tmps := args ++ Array.replicate (fn.ntmps - args.size) undef, defers := [] } w) : Calls P f args w R := by
  intro cs
  let b : Frame := { (default : Frame) with fn := f, kind := .normal }
  have henter : Frame.enter P f args .normal =
      b.at { tmps := args ++ Array.replicate (fn.ntmps - args.size) undef, defers := [] } [.code c] := by
    simp [Frame.enter, Frame.at, hf, hb, b]
  obtain ⟨e, a', w', hq, harr⟩ := h b [] cs (by simp [b])
  rw [← henter] at harr
  cases e with
  | normal =>
    obtain ⟨hd, v, hr, hR⟩ := hq
    exact ⟨.returned v, w', _, hR, Steps.trans harr (.one step_end), rfl, rfl, hd, rfl, fn, hf, hr⟩
  | ret =>
    obtain ⟨hd, v, hr, hR⟩ := hq
    obtain ⟨todo, hs⟩ := harr
    exact ⟨.returned v, w', _, hR, hs, rfl, rfl, hd, rfl, fn, hf, hr⟩
  | panic chain =>
    obtain ⟨hd, hR⟩ := hq
    obtain ⟨todo, hs⟩ := harr
    exact ⟨.panicked chain, w', _, hR, hs, rfl, rfl, hd, fn, hf⟩
  | exit id => exact hq.elim
  | goto l => exact hq.elim
  | outgrown => exact ⟨.outgrown, w', b, hq, harr.resolve_left (by simp [b]), rfl, trivial⟩

/-! ### a region, operation by operation -/
/-- what is left of a region's list -/
def opsN (P : Program) (ops : Array Oper) (Q : Exit → Act → World → Prop) (l : List Nat) (a : Act) (w : World) : Prop :=
  ∀ (b : Frame) (k : List Item) (cs : List Frame), b.kind ≠ .early →
    ∃ e a' w', Q e a' w' ∧ Arrives P (lone (b.at a (.inRegion ops l :: k)) cs w) b k cs e a' w'
theorem opsN_of_ops {ops : Array Oper} {l : List Nat} (h : wpOps P ops Q l a w) : opsN P ops Q l a w := fun b k cs _ => wp_ops l a w h b k cs
theorem wpN_region {id : Nat} {ops : Array Oper} (h : opsN P ops Q (List.range ops.size) a w) : wpN P (Code.region id ops false) Q a w :=
  fun b k cs hb => let ⟨e, a', w', q, r⟩ := h b k cs hb; ⟨e, a', w', q, .of_steps (.one step_region) r⟩
theorem opsN_nil {ops : Array Oper} (h : Q .normal a w) : opsN P ops Q [] a w := fun b k cs _ => ⟨.normal, a, w, h, .one step_region_end⟩
theorem opsN_value {ops : Array Oper} {i : Nat} {rest : List Nat} {o : Oper} {v : Value} {w' : World} (ho : ops[i]? = some o) (hw : Region.wanted o (yielded ops a.tmps) = true)
    (hr : (execOp a.eval o).run P w = .ok (.value v) w') (h : opsN P ops Q rest (a.put o.dst v) w') : opsN P ops Q (i :: rest) a w := by
  intro b k cs hb
  obtain ⟨e, a', w'', hq, harr⟩ := h b k cs hb
  refine ⟨e, a', w'', hq, .of_steps (.one (step_lone_go ?_)) harr⟩
  have hfin : ∀ v, (b.at a (.inRegion ops (i :: rest) :: k)).finish v = b.at (a.put o.dst v) (.inRegion ops rest :: k) := by
    intro v; rw [Frame.finish_at, ho]; rfl
  rw [stepG_op ho hw, ← hfin]; simp [stepG.apply, hr]
theorem opsN_send {ops : Array Oper} {i : Nat} {rest : List Nat} {o : Oper} {c cap s r : Nat} {buf : Array Value} {tm : Bool} {v z' : Value} {w₁ : World} (ho : ops[i]? = some o) (hw : Region.wanted o (yielded ops a.tmps) = true)
    (hr : (execOp a.eval o).run P w = .ok (.comm #[scase c v z'] true .send) w₁) (hc : w₁.heap[c]? = some (.chan cap buf false s r tm)) (hroom : buf.size < cap)
    (h : opsN P ops Q rest (a.put o.dst undef) (w₁.setChan c cap (buf.push v) false (s + 1) r tm)) : opsN P ops Q (i :: rest) a w := by
  intro b k cs hb
  obtain ⟨e, a', w'', hq, harr⟩ := h b k cs hb
  refine ⟨e, a', w'', hq, .of_steps (.one ?_) harr⟩
  have hg := stepG_comm (P := P) (main := true) (k := k) (cs := cs) (b := b) (rest := rest) ho hw hb hr
  have hs := step_lone_send_room hg hc hroom
  rw [Frame.finish_at, ho] at hs
  exact hs
theorem opsN_recv {ops : Array Oper} {i : Nat} {rest : List Nat} {o : Oper} {c cap s r : Nat} {buf : Array Value} {closed tm : Bool} {z : Value} {w₁ : World} (ho : ops[i]? = some o) (hw : Region.wanted o (yielded ops a.tmps) = true)
    (hr : (execOp a.eval o).run P w = .ok (.comm #[rcase c z] true (.recv false)) w₁) (hc : w₁.heap[c]? = some (.chan cap buf closed s r tm)) (hsome : 0 < buf.size)
    (h : opsN P ops Q rest (a.put o.dst (buf.getD 0 undef)) (w₁.setChan c cap (buf.extract 1 buf.size) closed s (r + 1) tm)) : opsN P ops Q (i :: rest) a w := by
  intro b k cs hb
  obtain ⟨e, a', w'', hq, harr⟩ := h b k cs hb
  refine ⟨e, a', w'', hq, .of_steps (.one ?_) harr⟩
  have hg := stepG_comm (P := P) (main := true) (k := k) (cs := cs) (b := b) (rest := rest) ho hw hb hr
  have hs := step_lone_recv_buf false hg hc hsome
  rw [Frame.finish_at, ho] at hs
  exact hs
end

end Go.Proofs.Ythabkpkgocafoaa

/- The queue of the solver: the contract of run's inner function. -/
namespace Go.Proofs.Ythabkpkgocafoaa
set_option linter.unusedVariables false
set_option linter.unusedSimpArgs false
open Go.RowKit Go.Conc


/-- the memory of the queue: the flags' variable gw and block W, the channel's variable gt and block C -/
structure QSt (w : World) (gw W gt C n : Nat) (flags : List Bool) (q : List Int) : Prop where
  len : flags.length = n
  bw : Blk w gw 104 #[.slice (some ⟨W, 0, none⟩) n n]
  fl : Blk w W 4 (flags.map Value.bool).toArray
  bt : Blk w gt 103 #[.chan (some C)]
  ch : ∃ s r, w.heap[C]? = some (.chan n (q.map (Value.int .i64)).toArray false s r false)

theorem Blk.chan {w : World} {g : Nat} {t : TypeId} {cs : Array Value} (h : Blk w g t cs) {C cap : Nat} (buf : Array Value) (cl : Bool) (s r : Nat) (tm : Bool) (hne : g ≠ C) : Blk (w.setChan C cap buf cl s r tm) g t cs := by
  unfold Blk at h ⊢
  simp [World.setChan, Array.getElem?_setIfInBounds, Ne.symm hne, h]
theorem QSt.ne {w : World} {gw W gt C n : Nat} {flags : List Bool} {q : List Int} (h : QSt w gw W gt C n flags q) : gw ≠ C ∧ W ≠ C ∧ gt ≠ C ∧ gt ≠ W ∧ gw ≠ W := by
  obtain ⟨_, b1, b2, b3, s, r, hc⟩ := h
  unfold Blk at b1 b2 b3
  refine ⟨?_, ?_, ?_, ?_, ?_⟩ <;> rintro rfl
  · rw [b1] at hc; cases hc
  · rw [b2] at hc; cases hc
  · rw [b3] at hc; cases hc
  · rw [b2] at b3; simp at b3
  · rw [b2] at b1; simp at b1

/-- all blocks but those of S are as they were -/
structure Off (S : List Nat) (w w' : World) : Prop where
  os : w'.os = w.os
  tape : w'.tape = w.tape
  output : w'.output = w.output
  size : w.heap.size ≤ w'.heap.size
  block : ∀ k, k < w.heap.size → k ∉ S → w'.heap[k]? = w.heap[k]?
section
variable {S : List Nat} {w w' w'' : World}
theorem Off.refl (S : List Nat) (w : World) : Off S w w := ⟨rfl, rfl, rfl, Nat.le_refl _, fun _ _ _ => rfl⟩
theorem Off.trans (h : Off S w w') (k : Off S w' w'') : Off S w w'' :=
  ⟨k.os.trans h.os, k.tape.trans h.tape, k.output.trans h.output, Nat.le_trans h.size k.size, fun i hi hs => (k.block i (Nat.lt_of_lt_of_le hi h.size) hs).trans (h.block i hi hs)⟩
theorem Off.mono {S' : List Nat} (h : Off S w w') (hs : ∀ k ∈ S, k ∈ S') : Off S' w w' := ⟨h.os, h.tape, h.output, h.size, fun k hk hn => h.block k hk fun e => hn (hs k e)⟩
theorem Off.of_below (h : Below w.heap.size w w') : Off S w w' := ⟨h.os, h.tape, h.output, h.size, fun k hk _ => h.block k hk⟩
theorem Off.set (h : Off S w w') {g : Nat} (hg : g ∈ S) (i : Nat) (u : Value) : Off S w (w'.setCell ⟨g, i, none⟩ u) :=
  ⟨h.os, h.tape, h.output, by rw [World.size_setCell]; exact h.size, fun k hk hn => (Below.heap_setCell _ _ _ _ (fun e => hn (by subst e; exact hg))).trans (h.block k hk hn)⟩
theorem Off.chan (h : Off S w w') {C cap : Nat} (hC : C ∈ S) (buf : Array Value) (cl : Bool) (s r : Nat) (tm : Bool) : Off S w (w'.setChan C cap buf cl s r tm) :=
  ⟨h.os, h.tape, h.output, by rw [size_setChan]; exact h.size, fun k hk hn => by
    have hne : C ≠ k := fun e => hn (by subst e; exact hC)
    rw [← h.block k hk hn]
    simp [World.setChan, Array.getElem?_setIfInBounds, hne]⟩
theorem Blk.off {g : Nat} {t : TypeId} {cs : Array Value} (h : Blk w g t cs) (hb : Off S w w') (hg : g ∉ S) : Blk w' g t cs := (hb.block g h.lt hg).trans h
theorem Off.below {B : Nat} (h : Off S w w') (hS : ∀ k ∈ S, B ≤ k) (hB : B ≤ w.heap.size) : Below B w w' := ⟨h.os, h.tape, h.output, h.size, fun k hk => h.block k (by omega) fun e => by have := hS k e; omega⟩
end

set_option maxRecDepth 100000 in
theorem putQ_yes (v : Nat) (gw W gt C n : Nat) (flags : List Bool) (q : List Int) (w : World) (h : QSt w gw W gt C n flags q) (hv : v < n) (hf : flags.getD v false = true) (hn : n ≤ 1048576) :
    Calls Try.prog 64 #[.int .i64 v, .pointer (some ⟨gw, 0, none⟩), .pointer (some ⟨gt, 0, none⟩)] w fun e w' => e = .returned (.tuple #[]) ∧ w = w' := by
  have hlen := h.len
  have x0 : w.cell? ⟨gw, 0, none⟩ = some (.slice (some ⟨W, 0, none⟩) n n) := h.bw.cell 0
  have x1 : w.cell? ⟨W, v, none⟩ = some (.bool true) := by
    rw [Blk.cell h.fl]
    have hv' : v < flags.length := by omega
    simp [List.getD, hv'] at hf
    simp [hv', hf]
  go_enter Try.func64, Try.ntmps64
  go_wp2_with fail
  go_end0
  exact ⟨rfl, rfl⟩

set_option maxRecDepth 100000 in
theorem putQ_no (v : Nat) (gw W gt C n : Nat) (flags : List Bool) (q : List Int) (w : World) (h : QSt w gw W gt C n flags q) (hv : v < n) (hf : flags.getD v false = false) (hn : n ≤ 1048576) (hq : q.length < n) :
    Calls Try.prog 64 #[.int .i64 v, .pointer (some ⟨gw, 0, none⟩), .pointer (some ⟨gt, 0, none⟩)] w fun e w' => e = .returned (.tuple #[]) ∧ QSt w' gw W gt C n (flags.set v true) (q ++ [(v : Int)]) ∧ Off [W, C] w w' := by
  have hlen := h.len
  have x0 : w.cell? ⟨gw, 0, none⟩ = some (.slice (some ⟨W, 0, none⟩) n n) := h.bw.cell 0
  have x1 : w.cell? ⟨W, v, none⟩ = some (.bool false) := by
    rw [Blk.cell h.fl]
    have hv' : v < flags.length := by omega
    simp [List.getD, hv'] at hf
    simp [hv', hf]
  refine calls_of_wpN Try.func64 rfl ?_
  simp only [Try.ntmps64, List.size_toArray, List.length_cons, List.length_nil, Nat.reduceAdd, Nat.reduceSub, Array.replicate_succ, Array.replicate_zero, List.push_toArray, List.append_toArray, List.nil_append, List.cons_append]
  obtain ⟨n1, n2, n3, n4, n5⟩ := h.ne
  obtain ⟨hl, b1, b2, b3, s, r, hc⟩ := h
  have f1 : w.frozen? ⟨W, v, none⟩ = false := b2.frozen v
  have c1 := b1.other (g' := W) (Ne.symm n5) v (.bool true)
  have c2 := b2.set_ v (.bool true)
  have c3 := b3.other (g' := W) (Ne.symm n4) v (.bool true)
  have y0 : (w.setCell ⟨W, v, none⟩ (.bool true)).cell? ⟨gt, 0, none⟩ = some (.chan (some C)) := c3.cell 0
  have hc1 : (w.setCell ⟨W, v, none⟩ (.bool true)).heap[C]? = some (.chan n (q.map (Value.int .i64)).toArray false s r false) := (Below.heap_setCell _ _ _ _ (Ne.symm n2)).trans hc
  have hCl : C < (w.setCell ⟨W, v, none⟩ (.bool true)).heap.size := (Array.getElem?_eq_some_iff.1 hc1).1
  refine wpN_seq_k (fun K hK => ?_)
  go_wp2_with fail
  refine hK.out _ _ ?_
  clear hK K
  refine wpN_cond (t := true) rfl ?_
  simp only [if_true]
  refine wpN_seq_k (fun K hK => ?_)
  go_wp2_with fail
  refine hK.out _ _ ?_
  clear hK K
  refine wpN_region ?_
  show opsN _ _ _ [0, 1, 2] _ _
  have ho : Off [W, C] w (w.setCell ⟨W, v, none⟩ (.bool true)) := (Off.refl _ _).set (by simp) _ _
  generalize w.setCell ⟨W, v, none⟩ (.bool true) = w1 at c1 c2 c3 y0 hc1 hCl ho ⊢
  refine opsN_value (v := .chan (some C)) (w' := w1) rfl rfl ?_ ?_
  · go_simp
  simp only [Act.put, List.setIfInBounds_toArray, List.set_cons_zero, List.set_cons_succ]
  refine opsN_value (v := .int .i64 v) (w' := w1) rfl rfl ?_ ?_
  · go_simp
  simp only [Act.put, List.setIfInBounds_toArray, List.set_cons_zero, List.set_cons_succ]
  refine opsN_send (c := C) (v := .int .i64 v) (z' := .tuple #[]) (w₁ := w1) rfl rfl ?_ hc1 (by simpa using hq) ?_
  · rfl
  refine opsN_nil ?_
  refine bodyPost_end (results_none rfl _ _ _) rfl ⟨rfl, ?_, ho.chan (by simp) _ _ _ _ _⟩
  refine ⟨by simp [hl], c1.chan _ _ _ _ _ n1, ?_, c3.chan _ _ _ _ _ n3, s + 1, r, ?_⟩
  · have := c2.chan (C := C) (cap := n) (((q.map (Value.int .i64)).toArray).push (.int .i64 v)) false (s + 1) r false n2
    rw [List.map_set]
    simpa using this
  · rw [heap_setChan _ _ _ _ _ _ _ _ hCl]
    simp

end Go.Proofs.Ythabkpkgocafoaa

/- Contracts of least.may, (*least.solver).left. -/
namespace Go.Proofs.Ythabkpkgocafoaa
set_option linter.unusedVariables false
set_option linter.unusedSimpArgs false
open Go.RowKit

def mayL (x : IneqD) (n : Int) : Bool := mayX x && (x.lc != 0 || decide (x.lv < n)) && decide (x.r < n)
def leftL (is : List Int) (x : IneqD) : Int := if x.lc = 0 then is.getD x.lv.toNat 0 else x.lc


theorem leastMay_any (x : IneqD) (n : Int) (w : World) :
    Calls Try.prog 41 #[.agg #[.int .i64 x.lv, .int .u8 x.lc, .int .u8 x.c, .int .i64 x.r], .int .i64 n] w fun e w' => e = .returned (.bool (mayL x n)) ∧ Below w.heap.size w w' := by
  cases hm : mayX x
  · have HM := Lib.hid (mayQE_no hm)
    have HF : Hid (mayL x n = false) := by show _ = _; simp [mayL, hm]
    clear hm
    have hX := blk_new w #[.int .i64 x.lv, .int .u8 x.lc, .int .u8 x.c, .int .i64 x.r] 31
    have hb0 := below_box (w := w) (Obj.cells #[.int .i64 x.lv, .int .u8 x.lc, .int .u8 x.c, .int .i64 x.r] 31)
    go_enter Try.func41, Try.ntmps41
    go_wp2_with fail
    refine (mayQ_at HM.out _).mono ?_; rintro e w1 ⟨rfl, hb1⟩
    have hX1 := hX.below hb1 hX.lt
    have hw1 := hb0.trans (hb1.mono hb0.size)
    have x0 : w1.cell? ⟨w.heap.size, 0, none⟩ = some (.int .i64 x.lv) := hX1.cell 0
    have x1 : w1.cell? ⟨w.heap.size, 1, none⟩ = some (.int .u8 x.lc) := hX1.cell 1
    have x3 : w1.cell? ⟨w.heap.size, 3, none⟩ = some (.int .i64 x.r) := hX1.cell 3
    go_wp2_with fail
    go_ret
    exact ⟨by rw [HF.out]; first | rfl | (simp; done), hw1⟩
  · have HM := Lib.hid (mayQE_yes hm)
    by_cases h0 : x.lc = 0
    · have d0 : (x.lc != 0) = false := by simp [h0]
      by_cases h1 : x.lv < n
      · have HF : Hid (mayL x n = decide (x.r < n)) := by show _ = _; simp [mayL, hm, h1]
        clear hm h0
        have hX := blk_new w #[.int .i64 x.lv, .int .u8 x.lc, .int .u8 x.c, .int .i64 x.r] 31
        have hb0 := below_box (w := w) (Obj.cells #[.int .i64 x.lv, .int .u8 x.lc, .int .u8 x.c, .int .i64 x.r] 31)
        go_enter Try.func41, Try.ntmps41
        go_wp2_with fail
        refine (mayQ_at HM.out _).mono ?_; rintro e w1 ⟨rfl, hb1⟩
        have hX1 := hX.below hb1 hX.lt
        have hw1 := hb0.trans (hb1.mono hb0.size)
        have x0 : w1.cell? ⟨w.heap.size, 0, none⟩ = some (.int .i64 x.lv) := hX1.cell 0
        have x1 : w1.cell? ⟨w.heap.size, 1, none⟩ = some (.int .u8 x.lc) := hX1.cell 1
        have x3 : w1.cell? ⟨w.heap.size, 3, none⟩ = some (.int .i64 x.r) := hX1.cell 3
        go_wp2_with fail
        go_ret
        exact ⟨by rw [HF.out]; first | rfl | (simp; done), hw1⟩
      · have HF : Hid (mayL x n = false) := by show _ = _; simp [mayL, h0, h1]
        clear hm h0
        have hX := blk_new w #[.int .i64 x.lv, .int .u8 x.lc, .int .u8 x.c, .int .i64 x.r] 31
        have hb0 := below_box (w := w) (Obj.cells #[.int .i64 x.lv, .int .u8 x.lc, .int .u8 x.c, .int .i64 x.r] 31)
        go_enter Try.func41, Try.ntmps41
        go_wp2_with fail
        refine (mayQ_at HM.out _).mono ?_; rintro e w1 ⟨rfl, hb1⟩
        have hX1 := hX.below hb1 hX.lt
        have hw1 := hb0.trans (hb1.mono hb0.size)
        have x0 : w1.cell? ⟨w.heap.size, 0, none⟩ = some (.int .i64 x.lv) := hX1.cell 0
        have x1 : w1.cell? ⟨w.heap.size, 1, none⟩ = some (.int .u8 x.lc) := hX1.cell 1
        have x3 : w1.cell? ⟨w.heap.size, 3, none⟩ = some (.int .i64 x.r) := hX1.cell 3
        go_wp2_with fail
        go_ret
        exact ⟨by rw [HF.out]; first | rfl | (simp; done), hw1⟩
    · have d0 : (x.lc != 0) = true := by simp [h0]
      have HF : Hid (mayL x n = decide (x.r < n)) := by show _ = _; simp [mayL, hm, h0]
      clear hm h0
      have hX := blk_new w #[.int .i64 x.lv, .int .u8 x.lc, .int .u8 x.c, .int .i64 x.r] 31
      have hb0 := below_box (w := w) (Obj.cells #[.int .i64 x.lv, .int .u8 x.lc, .int .u8 x.c, .int .i64 x.r] 31)
      go_enter Try.func41, Try.ntmps41
      go_wp2_with fail
      refine (mayQ_at HM.out _).mono ?_; rintro e w1 ⟨rfl, hb1⟩
      have hX1 := hX.below hb1 hX.lt
      have hw1 := hb0.trans (hb1.mono hb0.size)
      have x0 : w1.cell? ⟨w.heap.size, 0, none⟩ = some (.int .i64 x.lv) := hX1.cell 0
      have x1 : w1.cell? ⟨w.heap.size, 1, none⟩ = some (.int .u8 x.lc) := hX1.cell 1
      have x3 : w1.cell? ⟨w.heap.size, 3, none⟩ = some (.int .i64 x.r) := hX1.cell 3
      go_wp2_with fail
      go_ret
      exact ⟨by rw [HF.out]; first | rfl | (simp; done), hw1⟩

theorem left_any (x : IneqD) (g : Nat) (A : Option Addr) (n c : Nat) (is : List Int) (w : World) (B : Nat) (h2 : w.cell? ⟨g, 2, none⟩ = some (.slice A n c)) (hr : RdI .u8 w B A n c is) (hB : B ≤ w.heap.size) (hg : g < w.heap.size) (hlv : x.lc = 0 → 0 ≤ x.lv ∧ x.lv < n) :
    Calls Try.prog 45 #[.pointer (some ⟨g, 0, none⟩), .agg #[.int .i64 x.lv, .int .u8 x.lc, .int .u8 x.c, .int .i64 x.r]] w fun e w' => e = .returned (.int .u8 (leftL is x)) ∧ Below w.heap.size w w' := by
  obtain ⟨lv, lc, xc, xr⟩ := x
  dsimp only at hlv ⊢
  have hn63 : n ≤ 9223372036854775807 := Nat.le_trans hr.2.1 hr.2.2
  by_cases h0 : lc = 0
  · obtain ⟨hv0, hv1⟩ := hlv h0
    obtain ⟨k, rfl⟩ : ∃ k : Nat, lv = (k : Int) := ⟨lv.toNat, (Int.toNat_of_nonneg hv0).symm⟩
    subst h0
    have hX := blk_new w #[.int .i64 (k : Int), .int .u8 0, .int .u8 xc, .int .i64 xr] 31
    have hb0 := below_box (w := w) (Obj.cells #[.int .i64 (k : Int), .int .u8 0, .int .u8 xc, .int .i64 xr] 31)
    have y2 : (w.alloc (Obj.cells #[.int .i64 (k : Int), .int .u8 0, .int .u8 xc, .int .i64 xr] 31)).cell? ⟨g, 2, none⟩ = some (.slice A n c) := (World.cell?_alloc_lt _ _ ⟨g, 2, none⟩ hg).trans h2
    have x0 : (w.alloc (Obj.cells #[.int .i64 (k : Int), .int .u8 0, .int .u8 xc, .int .i64 xr] 31)).cell? ⟨w.heap.size, 0, none⟩ = some (.int .i64 (k : Int)) := hX.cell 0
    have x1 : (w.alloc (Obj.cells #[.int .i64 (k : Int), .int .u8 0, .int .u8 xc, .int .i64 xr] 31)).cell? ⟨w.heap.size, 1, none⟩ = some (.int .u8 0) := hX.cell 1
    have hl := hr.len
    have hkn : k < n := by omega
    obtain ⟨b, off, rfl, hb, hcell⟩ := (hr.below (hb0.mono hB)).at_ (by omega)
    have hkl : k < is.length := by omega
    have q0 := hcell k hkl
    have HF : Hid (leftL is ⟨k, 0, xc, xr⟩ = is[k]) := by
      show _ = _
      unfold leftL
      rw [if_pos rfl]
      simp [List.getD, hkl]
    generalize is[k] = LL at q0 HF
    have i1 : (0 : Int) ≤ (k : Int) := by omega
    have i2 : (k : Int) < n := by omega
    clear hlv hv0 hv1 hcell hl hkl
    go_enter Try.func45, Try.ntmps45
    go_wp2_with fail
    go_quiet (fail)
    go_wp2_with fail
    go_ret
    exact ⟨by rw [HF.out]; rfl, below_drewN_t hb0 _⟩
  · skip
    have hX := blk_new w #[.int .i64 lv, .int .u8 lc, .int .u8 xc, .int .i64 xr] 31
    have hb0 := below_box (w := w) (Obj.cells #[.int .i64 lv, .int .u8 lc, .int .u8 xc, .int .i64 xr] 31)
    have y2 : (w.alloc (Obj.cells #[.int .i64 lv, .int .u8 lc, .int .u8 xc, .int .i64 xr] 31)).cell? ⟨g, 2, none⟩ = some (.slice A n c) := (World.cell?_alloc_lt _ _ ⟨g, 2, none⟩ hg).trans h2
    have x0 : (w.alloc (Obj.cells #[.int .i64 lv, .int .u8 lc, .int .u8 xc, .int .i64 xr] 31)).cell? ⟨w.heap.size, 0, none⟩ = some (.int .i64 lv) := hX.cell 0
    have x1 : (w.alloc (Obj.cells #[.int .i64 lv, .int .u8 lc, .int .u8 xc, .int .i64 xr] 31)).cell? ⟨w.heap.size, 1, none⟩ = some (.int .u8 lc) := hX.cell 1
    have HF : Hid (leftL is ⟨lv, lc, xc, xr⟩ = lc) := by show _ = _; unfold leftL; rw [if_neg h0]
    have d0 : (lc != 0) = true := by simp [h0]
    clear h0 hlv
    go_enter Try.func45, Try.ntmps45
    go_wp2_with fail
    go_ret
    exact ⟨by rw [HF.out]; rfl, hb0⟩

end Go.Proofs.Ythabkpkgocafoaa

/- The contract of (*least.solver).raise. -/
namespace Go.Proofs.Ythabkpkgocafoaa
set_option linter.unusedVariables false
set_option linter.unusedSimpArgs false
open Go.RowKit Go.Conc

theorem left_at {x : IneqD} {g : Nat} {A : Option Addr} {n c : Nat} {is : List Int} {w : World} {L : Int} (hL : leftL is x = L) (h2 : w.cell? ⟨g, 2, none⟩ = some (.slice A n c)) (hr : RdI .u8 w w.heap.size A n c is) (hg : g < w.heap.size) (hlv : x.lc = 0 → 0 ≤ x.lv ∧ x.lv < n) :
    Calls Try.prog 45 #[.pointer (some ⟨g, 0, none⟩), .agg #[.int .i64 x.lv, .int .u8 x.lc, .int .u8 x.c, .int .i64 x.r]] w fun e w' => e = .returned (.int .u8 L) ∧ Below w.heap.size w w' := by
  rw [← hL]
  exact left_any x g A n c is w w.heap.size h2 hr (Nat.le_refl _) hg hlv

/-- does an inequality raise its variable? -/
def raiseB (is : List Int) (x : IneqD) : Bool := decide (0 ≤ x.r) && decide (max x.c (is.getD x.r.toNat 0) < leftL is x)


set_option maxRecDepth 100000 in
theorem raise_no (g : Nat) (Al : Option Addr) (nl cl : Nat) (xs : List IneqD) (I n ci : Nat) (is : List Int) (i : Nat) (x : IneqD) (w : World) (h0 : w.cell? ⟨g, 0, none⟩ = some (.slice Al nl cl)) (h2 : w.cell? ⟨g, 2, none⟩ = some (.slice (some ⟨I, 0, none⟩) n ci)) (hx : IneqsV w w.heap.size Al nl cl xs) (hr : RdI .u8 w w.heap.size (some ⟨I, 0, none⟩) n ci is) (hg : g < w.heap.size)
    (hi : xs[i]? = some x) (hlv : x.lc = 0 → 0 ≤ x.lv ∧ x.lv < n) (hrn : x.r < n) (hno : raiseB is x = false) :
    Calls Try.prog 65 #[.pointer (some ⟨g, 0, none⟩), .int .i64 i] w fun e w' => e = .returned (.bool false) ∧ Below w.heap.size w w' := by
  obtain ⟨hil, hxi⟩ := List.getElem?_eq_some_iff.1 hi
  have hl := hx.len
  have hin : i < nl := by omega
  have hnl63 : nl ≤ 9223372036854775807 := Nat.le_trans hx.2.1 hx.2.2.1
  have hn63 : n ≤ 9223372036854775807 := Nat.le_trans hr.2.1 hr.2.2
  obtain ⟨bl, offl, rfl, hbl, hcl⟩ := hx.at_ (by omega)
  obtain ⟨e0, e1, e2, e3⟩ := hcl i hil
  rw [hxi] at e0 e1 e2 e3
  have i1 : (0 : Int) ≤ (i : Int) := by omega
  have i2 : (i : Int) < nl := by omega
  have hbx := below_box (w := w) (Obj.cells #[.int .i64 x.lv, .int .u8 x.lc, .int .u8 x.c, .int .i64 x.r] 31)
  have hX := blk_new w #[.int .i64 x.lv, .int .u8 x.lc, .int .u8 x.c, .int .i64 x.r] 31
  have y2 : (w.alloc (Obj.cells #[.int .i64 x.lv, .int .u8 x.lc, .int .u8 x.c, .int .i64 x.r] 31)).cell? ⟨g, 2, none⟩ = some (.slice (some ⟨I, 0, none⟩) n ci) := (World.cell?_alloc_lt _ _ ⟨g, 2, none⟩ hg).trans h2
  have hr1 := (hr.below hbx).more hbx.size
  have hg1 : g < (w.alloc (Obj.cells #[.int .i64 x.lv, .int .u8 x.lc, .int .u8 x.c, .int .i64 x.r] 31)).heap.size := by simp; omega
  obtain ⟨L, hL⟩ : ∃ L, leftL is x = L := ⟨_, rfl⟩
  have hq := left_at hL y2 hr1 hg1 hlv
  have Hq := Lib.hid hq
  have Hlv := Lib.hid hlv
  have HL := Lib.hid hL
  by_cases hr0 : x.r < 0
  · clear hl hcl hxi hi hno hq hlv hL
    go_enter Try.func65, Try.ntmps65
    go_wp2_with fail
    go_quiet (fail)
    go_wp2_with fail
    go_ret
    exact ⟨rfl, below_drewN_t hbx _⟩
  · have hmx := @run_max2 Try.prog
    obtain ⟨lv, lc, xc, xr⟩ := x
    dsimp only at *
    obtain ⟨k, rfl⟩ : ∃ k : Nat, xr = (k : Int) := ⟨xr.toNat, (Int.toNat_of_nonneg (by omega)).symm⟩
    have hil2 := hr.len
    have hkn : k < n := by omega
    have hkl : k < is.length := by omega
    obtain ⟨b9, off9, hA9, hb9, hcell⟩ := hr1.at_ (by omega)
    cases hA9
    have q0 := hcell k hkl
    rw [Nat.zero_add] at q0
    have hnn : ¬ (max xc is[k] < L) := by
      intro h
      have : raiseB is ⟨lv, lc, xc, (k : Int)⟩ = true := by
        have hgd : is.getD (k : Int).toNat 0 = is[k] := by rw [Int.toNat_natCast]; simp [List.getD, hkl]
        unfold raiseB
        rw [hL, hgd, decide_eq_true (show (0 : Int) ≤ (k : Int) by omega), decide_eq_true h]
        rfl
      rw [hno] at this; cases this
    generalize is[k] = LL at q0 hnn
    have d0 : decide ((k : Int) < 0) = false := by simp
    have d1 : decide (L ≤ max xc LL) = true := by simp; omega
    have k1 : (0 : Int) ≤ (k : Int) := by omega
    have k2 : (k : Int) < n := by omega
    have Hbx := Lib.hid hbx
    have Hr1 := Lib.hid hr1
    have HX := Lib.hid hX
    have Hy2 := Lib.hid y2
    clear hl hcl hxi hi hno hq hlv hL hnn hcell hil2 hr1 hr hX hr0 hbx Hq
    go_enter Try.func65, Try.ntmps65
    go_wp2_with fail
    generalize hW : w.alloc (Obj.cells #[.int .i64 lv, .int .u8 lc, .int .u8 xc, .int .i64 (k : Int)] 31) = w0 at y2 q0 hg1 Hr1 HX Hy2 Hbx ⊢
    clear hW
    have x0 : w0.cell? ⟨w.heap.size, 0, none⟩ = some (.int .i64 lv) := HX.out.cell 0
    have x1 : w0.cell? ⟨w.heap.size, 1, none⟩ = some (.int .u8 lc) := HX.out.cell 1
    have x2 : w0.cell? ⟨w.heap.size, 2, none⟩ = some (.int .u8 xc) := HX.out.cell 2
    have x3 : w0.cell? ⟨w.heap.size, 3, none⟩ = some (.int .i64 (k : Int)) := HX.out.cell 3
    have kx0 := fun d os => cell_regrown x0 d os
    have kx1 := fun d os => cell_regrown x1 d os
    have kx2 := fun d os => cell_regrown x2 d os
    have kx3 := fun d os => cell_regrown x3 d os
    have ky2 := fun d os => cell_regrown y2 d os
    have kq0 := fun d os => cell_regrown q0 d os
    clear x0 x1 x2 x3 y2 q0
    have hq : ∀ d os, Calls Try.prog 45 #[.pointer (some ⟨g, 0, none⟩), .agg #[.int .i64 lv, .int .u8 lc, .int .u8 xc, .int .i64 (k : Int)]] («Sort».grow (redrawn w0 d) os) (fun e w' => e = .returned (.int .u8 L) ∧ Below («Sort».grow (redrawn w0 d) os).heap.size («Sort».grow (redrawn w0 d) os) w') := fun d os =>
      left_at (x := ⟨lv, lc, xc, (k : Int)⟩) HL.out (cell_regrown Hy2.out d os) ((Hr1.out.below (below_regrown w0 d os)).more (below_regrown w0 d os).size) (Nat.lt_of_lt_of_le hg1 (below_regrown w0 d os).size) Hlv.out
    replace hq := Lib.hid hq
    refine wp_region_quiet_below (by kernel_rfl) (by kernel_rfl) ?_
    repeat (go_big_quiet_step ((first | (go_at_call 45; exact Calls.regrown_of (hq.out _ _)))))
    refine wpQuiet_nil ?_
    intro _ hw'
    obtain ⟨⟨dq, osq⟩, hw''⟩ := hw'
    subst hw''
    go_wp2_with fail
    go_ret
    exact ⟨rfl, Hbx.out.trans ((below_regrown _ _ _).mono Hbx.out.size)⟩

end Go.Proofs.Ythabkpkgocafoaa

/- The contract of (*least.solver).raise where it raises. -/
namespace Go.Proofs.Ythabkpkgocafoaa
set_option linter.unusedVariables false
set_option linter.unusedSimpArgs false
open Go.RowKit Go.Conc

/-- a block whose first cells are the integers xs -/
def RowC (w : World) (g : Nat) (t : TypeId) (k : IntKind) (xs : List Int) : Prop :=
  ∃ cs : Array Value, Blk w g t cs ∧ xs.length ≤ cs.size ∧ ∀ (i : Nat) (h : i < xs.length), cs[i]? = some (.int k xs[i])
section
variable {w w' : World} {g g' : Nat} {t : TypeId} {k : IntKind} {xs : List Int}
theorem RowC.lt (h : RowC w g t k xs) : g < w.heap.size := by obtain ⟨cs, hb, _⟩ := h; exact hb.lt
theorem RowC.cell (h : RowC w g t k xs) (i : Nat) (hi : i < xs.length) : w.cell? ⟨g, i, none⟩ = some (.int k xs[i]) := by
  obtain ⟨cs, hb, _, hc⟩ := h
  rw [Blk.cell hb, hc i hi]
theorem RowC.frozen (h : RowC w g t k xs) (i : Nat) : w.frozen? ⟨g, i, none⟩ = false := by obtain ⟨cs, hb, _⟩ := h; exact hb.frozen i
theorem RowC.set_ (h : RowC w g t k xs) (i : Nat) (hi : i < xs.length) (u : Int) : RowC (w.setCell ⟨g, i, none⟩ (.int k u)) g t k (xs.set i u) := by
  obtain ⟨cs, hb, hl, hc⟩ := h
  refine ⟨_, hb.set_ i _, by simpa using hl, fun j hj => ?_⟩
  rw [List.length_set] at hj
  rw [Array.getElem?_setIfInBounds, List.getElem_set]
  by_cases e : i = j
  · subst e; rw [if_pos rfl, if_pos rfl, if_pos (by omega)]
  · rw [if_neg e, if_neg e]; exact hc j hj
theorem RowC.other (h : RowC w g t k xs) (hg : g' ≠ g) (i : Nat) (u : Value) : RowC (w.setCell ⟨g', i, none⟩ u) g t k xs := by
  obtain ⟨cs, hb, hl⟩ := h; exact ⟨cs, hb.other hg i u, hl⟩
theorem RowC.below {B : Nat} (h : RowC w g t k xs) (hb : Below B w w') (hg : g < B) : RowC w' g t k xs := by
  obtain ⟨cs, hb', hl⟩ := h; exact ⟨cs, hb'.below hb hg, hl⟩
theorem RowC.off {S : List Nat} (h : RowC w g t k xs) (hb : Off S w w') (hg : g ∉ S) : RowC w' g t k xs := by
  obtain ⟨cs, hb', hl⟩ := h; exact ⟨cs, hb'.off hb hg, hl⟩
theorem RowC.rd (h : RowC w g t k xs) {n c : Nat} (hn : xs.length = n) (hc : n ≤ c) (hm : c ≤ maxLen) : RdI k w w.heap.size (some ⟨g, 0, none⟩) n c xs := by
  refine ⟨⟨by simpa using hn, fun _ => ⟨g, 0, rfl, h.lt, fun j u hu => ?_⟩⟩, hc, hm⟩
  obtain ⟨hj, rfl⟩ := List.getElem?_eq_some_iff.1 hu
  rw [Nat.zero_add, h.cell j (by simpa using hj)]
  simp
end

theorem set_blk {w : World} {b b' : Nat} (h : b ≠ b') {i j : Nat} {u v : Value} (hc : w.cell? ⟨b', j, none⟩ = some v) : (w.setCell ⟨b, i, none⟩ u).cell? ⟨b', j, none⟩ = some v :=
  (World.cell?_setCell_other w ⟨b, i, none⟩ ⟨b', j, none⟩ u (fun e => h (by cases e; rfl))).trans hc

set_option maxRecDepth 100000 in
theorem raise_yes (g : Nat) (Al : Option Addr) (nl cl : Nat) (xs : List IneqD) (I Y n ci cy : Nat) (is why : List Int) (i k : Nat) (lv lc xc : Int) (w : World) (h0 : w.cell? ⟨g, 0, none⟩ = some (.slice Al nl cl)) (h2 : w.cell? ⟨g, 2, none⟩ = some (.slice (some ⟨I, 0, none⟩) n ci)) (h3 : w.cell? ⟨g, 3, none⟩ = some (.slice (some ⟨Y, 0, none⟩) n cy)) (hx : IneqsV w w.heap.size Al nl cl xs)
    (hI : RowC w I 27 .u8 is) (hY : RowC w Y 3 .i64 why) (his : is.length = n) (hwhy : why.length = n) (hci : n ≤ ci) (hci2 : ci ≤ maxLen) (hne : I ≠ Y) (hgI : I ≠ g) (hgY : Y ≠ g) (hg : g < w.heap.size)
    (hi : xs[i]? = some ⟨lv, lc, xc, (k : Int)⟩) (hlv : lc = 0 → 0 ≤ lv ∧ lv < n) (hkn : k < n) (hyes : raiseB is ⟨lv, lc, xc, (k : Int)⟩ = true) :
    Calls Try.prog 65 #[.pointer (some ⟨g, 0, none⟩), .int .i64 i] w fun e w' => e = .returned (.bool true) ∧ RowC w' I 27 .u8 (is.set k (leftL is ⟨lv, lc, xc, (k : Int)⟩)) ∧ RowC w' Y 3 .i64 (why.set k i) ∧ Off [I, Y] w w' := by
  have hmx := @run_max2 Try.prog
  obtain ⟨hil, hxi⟩ := List.getElem?_eq_some_iff.1 hi
  have hr := hI.rd his hci hci2
  have hl := hx.len
  have hin : i < nl := by omega
  have hnl63 : nl ≤ 9223372036854775807 := Nat.le_trans hx.2.1 hx.2.2.1
  have hn63 : n ≤ 9223372036854775807 := Nat.le_trans hr.2.1 hr.2.2
  obtain ⟨bl, offl, rfl, hbl, hcl⟩ := hx.at_ (by omega)
  obtain ⟨e0, e1, e2, e3⟩ := hcl i hil
  rw [hxi] at e0 e1 e2 e3
  dsimp only at e0 e1 e2 e3
  have i1 : (0 : Int) ≤ (i : Int) := by omega
  have i2 : (i : Int) < nl := by omega
  have hkl : k < is.length := by omega
  have hky : k < why.length := by omega
  have hbI : I ≠ w.heap.size := Nat.ne_of_lt hI.lt
  have hbY : Y ≠ w.heap.size := Nat.ne_of_lt hY.lt
  have hbx := below_box (w := w) (Obj.cells #[.int .i64 lv, .int .u8 lc, .int .u8 xc, .int .i64 (k : Int)] 31)
  have hX := blk_new w #[.int .i64 lv, .int .u8 lc, .int .u8 xc, .int .i64 (k : Int)] 31
  have hr1 := (hr.below hbx).more hbx.size
  have hI1 := hI.below hbx hI.lt
  have hY1 := hY.below hbx hY.lt
  have y2 : (w.alloc (Obj.cells #[.int .i64 lv, .int .u8 lc, .int .u8 xc, .int .i64 (k : Int)] 31)).cell? ⟨g, 2, none⟩ = some (.slice (some ⟨I, 0, none⟩) n ci) := (World.cell?_alloc_lt _ _ ⟨g, 2, none⟩ hg).trans h2
  have y3 : (w.alloc (Obj.cells #[.int .i64 lv, .int .u8 lc, .int .u8 xc, .int .i64 (k : Int)] 31)).cell? ⟨g, 3, none⟩ = some (.slice (some ⟨Y, 0, none⟩) n cy) := (World.cell?_alloc_lt _ _ ⟨g, 3, none⟩ hg).trans h3
  have hg1 : g < (w.alloc (Obj.cells #[.int .i64 lv, .int .u8 lc, .int .u8 xc, .int .i64 (k : Int)] 31)).heap.size := by simp; omega
  obtain ⟨L, hL⟩ : ∃ L, leftL is ⟨lv, lc, xc, (k : Int)⟩ = L := ⟨_, rfl⟩
  rw [hL]
  have HL := Lib.hid hL
  have Hlv := Lib.hid hlv
  have hgd : is.getD (k : Int).toNat 0 = is[k] := by rw [Int.toNat_natCast]; simp [List.getD, hkl]
  have hnn : max xc is[k] < L := by
    unfold raiseB at hyes
    rw [Bool.and_eq_true, decide_eq_true_eq, decide_eq_true_eq] at hyes
    have := hyes.2
    dsimp only at this
    rw [hgd, hL] at this
    exact this
  have q0 := hI1.cell k hkl
  generalize is[k] = LL at q0 hnn
  have d0 : decide ((k : Int) < 0) = false := by simp
  have d1 : decide (L ≤ max xc LL) = false := by simp; omega
  have k1 : (0 : Int) ≤ (k : Int) := by omega
  have k2 : (k : Int) < n := by omega
  have Hbx := Lib.hid hbx
  have Hr1 := Lib.hid hr1
  have HX := Lib.hid hX
  have Hy2 := Lib.hid y2
  have Hy3 := Lib.hid y3
  have HI := Lib.hid hI1
  have HY := Lib.hid hY1
  have Hkl := Lib.hid hkl
  have Hky := Lib.hid hky
  clear hl hcl hxi hi hyes hlv hL hnn hr1 hr hX hbx hgd hI1 hY1 hI hY h2 h3 hx his hwhy y3 hkl hky
  go_enter Try.func65, Try.ntmps65
  go_wp2_with fail
  generalize hW : w.alloc (Obj.cells #[.int .i64 lv, .int .u8 lc, .int .u8 xc, .int .i64 (k : Int)] 31) = w0 at y2 q0 hg1 Hr1 HX Hy2 Hy3 Hbx HI HY ⊢
  clear hW
  have x0 : w0.cell? ⟨w.heap.size, 0, none⟩ = some (.int .i64 lv) := HX.out.cell 0
  have x1 : w0.cell? ⟨w.heap.size, 1, none⟩ = some (.int .u8 lc) := HX.out.cell 1
  have x2 : w0.cell? ⟨w.heap.size, 2, none⟩ = some (.int .u8 xc) := HX.out.cell 2
  have x3 : w0.cell? ⟨w.heap.size, 3, none⟩ = some (.int .i64 (k : Int)) := HX.out.cell 3
  have kx0 := fun d os => cell_regrown x0 d os
  have kx1 := fun d os => cell_regrown x1 d os
  have kx2 := fun d os => cell_regrown x2 d os
  have kx3 := fun d os => cell_regrown x3 d os
  have ky2 := fun d os => cell_regrown y2 d os
  have kq0 := fun d os => cell_regrown q0 d os
  clear x0 x1 x2 x3 y2 q0
  have hq : ∀ d os, Calls Try.prog 45 #[.pointer (some ⟨g, 0, none⟩), .agg #[.int .i64 lv, .int .u8 lc, .int .u8 xc, .int .i64 (k : Int)]] («Sort».grow (redrawn w0 d) os) (fun e w' => e = .returned (.int .u8 L) ∧ Below («Sort».grow (redrawn w0 d) os).heap.size («Sort».grow (redrawn w0 d) os) w') := fun d os =>
    left_at (x := ⟨lv, lc, xc, (k : Int)⟩) HL.out (cell_regrown Hy2.out d os) ((Hr1.out.below (below_regrown w0 d os)).more (below_regrown w0 d os).size) (Nat.lt_of_lt_of_le hg1 (below_regrown w0 d os).size) Hlv.out
  replace hq := Lib.hid hq
  refine wp_region_quiet_below (by kernel_rfl) (by kernel_rfl) ?_
  repeat (go_big_quiet_step ((first | (go_at_call 45; exact Calls.regrown_of (hq.out _ _)))))
  refine wpQuiet_nil ?_
  intro _ hw'
  obtain ⟨⟨dq, osq⟩, hw''⟩ := hw'
  subst hw''
  have hb1 := below_regrown w0 dq osq
  clear kx0 kx1 kx2 kx3 ky2 kq0 hq
  generalize «Sort».grow (redrawn w0 dq) osq = w1 at hb1 ⊢
  have hX1 := HX.out.below hb1 HX.out.lt
  have hr2 := (Hr1.out.below hb1).more hb1.size
  have y2 : w1.cell? ⟨g, 2, none⟩ = some (.slice (some ⟨I, 0, none⟩) n ci) := (hb1.cell hg1).trans Hy2.out
  have y3 : w1.cell? ⟨g, 3, none⟩ = some (.slice (some ⟨Y, 0, none⟩) n cy) := (hb1.cell hg1).trans Hy3.out
  have hg2 : g < w1.heap.size := Nat.lt_of_lt_of_le hg1 hb1.size
  have hI2 := HI.out.below hb1 HI.out.lt
  have hY2 := HY.out.below hb1 HY.out.lt
  have hbw : Below w.heap.size w w1 := Hbx.out.trans (hb1.mono Hbx.out.size)
  clear hb1 Hbx Hr1 HX Hy2 Hy3 HI HY hg1
  clear w0
  have x0 : w1.cell? ⟨w.heap.size, 0, none⟩ = some (.int .i64 lv) := hX1.cell 0
  have x1 : w1.cell? ⟨w.heap.size, 1, none⟩ = some (.int .u8 lc) := hX1.cell 1
  have x2 : w1.cell? ⟨w.heap.size, 2, none⟩ = some (.int .u8 xc) := hX1.cell 2
  have x3 : w1.cell? ⟨w.heap.size, 3, none⟩ = some (.int .i64 (k : Int)) := hX1.cell 3
  have hwl : w.heap.size < w1.heap.size := hX1.lt
  have Hr2 := Lib.hid hr2
  have HI2 := Lib.hid hI2
  have HY2 := Lib.hid hY2
  have Hbw := Lib.hid hbw
  clear hr2 hI2 hY2 hbw hX1
  have hne' : ¬ Y = I := fun e => hne e.symm
  go_wp2_with fail
  go_region_held3 (fun w' => w'.cell? ⟨g, 2, none⟩ = some (.slice (some ⟨I, 0, none⟩) n ci) ∧ w'.cell? ⟨g, 3, none⟩ = some (.slice (some ⟨Y, 0, none⟩) n cy) ∧ w'.cell? ⟨w.heap.size, 0, none⟩ = some (.int .i64 lv) ∧ w'.cell? ⟨w.heap.size, 1, none⟩ = some (.int .u8 lc) ∧ w'.cell? ⟨w.heap.size, 2, none⟩ = some (.int .u8 xc) ∧ w'.cell? ⟨w.heap.size, 3, none⟩ = some (.int .i64 (k : Int)))
    (first | go_keep | exact ⟨y2, y3, x0, x1, x2, x3⟩ | exact ⟨z2, z3, v0, v1, v2, v3⟩ | exact ⟨set_blk hgI z2, set_blk hgI z3, set_blk hbI v0, set_blk hbI v1, set_blk hbI v2, set_blk hbI v3⟩ | exact ⟨set_blk hgY z2, set_blk hgY z3, set_blk hbY v0, set_blk hbY v1, set_blk hbY v2, set_blk hbY v3⟩ | exact ⟨set_blk hgY (set_blk hgI z2), set_blk hgY (set_blk hgI z3), set_blk hbY (set_blk hbI v0), set_blk hbY (set_blk hbI v1), set_blk hbY (set_blk hbI v2), set_blk hbY (set_blk hbI v3)⟩ | exact ⟨set_blk hgI (set_blk hgY z2), set_blk hgI (set_blk hgY z3), set_blk hbI (set_blk hbY v0), set_blk hbI (set_blk hbY v1), set_blk hbI (set_blk hbY v2), set_blk hbI (set_blk hbY v3)⟩)
    ((go_at_call 45; refine (left_at (x := ⟨lv, lc, xc, (k : Int)⟩) (w := w1.drew) HL.out y2 (Hr2.out.keep (w' := w1.drew) fun _ _ => rfl) hg2 Hlv.out).mono ?_; rintro e w5 ⟨rfl, hb5⟩;
      replace hb5 : Below w1.heap.size w1 w5 := ((Below.refl _ _).drew).trans hb5; have hI5 := HI2.out.below hb5 HI2.out.lt; have hY5 := HY2.out.below hb5 HY2.out.lt;
      have p0 := hI5.frozen k; have p1 := hY5.frozen k; have p2 := hI5.cell k Hkl.out; have p3 := hY5.cell k Hky.out;
      have z2 : w5.cell? ⟨g, 2, none⟩ = some (.slice (some ⟨I, 0, none⟩) n ci) := (hb5.cell (p := ⟨g, 2, none⟩) hg2).trans y2; have z3 : w5.cell? ⟨g, 3, none⟩ = some (.slice (some ⟨Y, 0, none⟩) n cy) := (hb5.cell (p := ⟨g, 3, none⟩) hg2).trans y3;
      have v0 : w5.cell? ⟨w.heap.size, 0, none⟩ = some (.int .i64 lv) := (hb5.cell (p := ⟨w.heap.size, 0, none⟩) hwl).trans x0; have v1 : w5.cell? ⟨w.heap.size, 1, none⟩ = some (.int .u8 lc) := (hb5.cell (p := ⟨w.heap.size, 1, none⟩) hwl).trans x1;
      have v2 : w5.cell? ⟨w.heap.size, 2, none⟩ = some (.int .u8 xc) := (hb5.cell (p := ⟨w.heap.size, 2, none⟩) hwl).trans x2; have v3 : w5.cell? ⟨w.heap.size, 3, none⟩ = some (.int .i64 (k : Int)) := (hb5.cell (p := ⟨w.heap.size, 3, none⟩) hwl).trans x3))
  have hfI : RowC ((w5.setCell ⟨I, k, none⟩ (.int .u8 L)).setCell ⟨Y, k, none⟩ (.int .i64 i)) I 27 .u8 (is.set k L) := (hI5.set_ k Hkl.out L).other (Ne.symm hne) k _
  have hfY : RowC ((w5.setCell ⟨I, k, none⟩ (.int .u8 L)).setCell ⟨Y, k, none⟩ (.int .i64 i)) Y 3 .i64 (why.set k i) := (hY5.other hne k _).set_ k Hky.out i
  have hfo : Off [I, Y] w ((w5.setCell ⟨I, k, none⟩ (.int .u8 L)).setCell ⟨Y, k, none⟩ (.int .i64 i)) := ((Off.of_below (Hbw.out.trans (hb5.mono Hbw.out.size))).set (by simp) _ _).set (by simp) _ _
  generalize (w5.setCell ⟨I, k, none⟩ (.int .u8 L)).setCell ⟨Y, k, none⟩ (.int .i64 i) = w9 at hfI hfY hfo ⊢
  clear hI5 hY5 hb5 p0 p1 p2 p3 z2 z3 v0 v1 v2 v3
  go_wp2_with fail
  go_ret
  exact ⟨rfl, hfI, hfY, hfo⟩

end Go.Proofs.Ythabkpkgocafoaa

/- The solver's lists by variables in memory: a slice of slices that own their rows. -/
namespace Go.Proofs.Ythabkpkgocafoaa
set_option linter.unusedVariables false
set_option linter.unusedSimpArgs false
open Go.RowKit Go.Conc

theorem ownsRow_block {w w' : World} {base : Nat} {e : TypeId} {size : Nat} {v : Value} {n : Nat} {xs : List Value} (h : w.ownsRow base e size v n xs) (hb : ∀ b, v.ownBlock = some b → w'.heap[b]? = w.heap[b]?) : w'.ownsRow base e size v n xs := by
  refine ⟨h.1, ?_⟩
  rcases h.2 with q | ⟨g, cap, cur, e1, e2, e3, e4⟩
  · exact Or.inl q
  · exact Or.inr ⟨g, cap, cur, e1, e2, by rw [hb g (by rw [e1]; rfl)]; exact e3, e4⟩
theorem ownsRow_lt {w : World} {base : Nat} {e : TypeId} {size : Nat} {v : Value} {n : Nat} {xs : List Value} (h : w.ownsRow base e size v n xs) {b : Nat} (hb : v.ownBlock = some b) : base ≤ b ∧ b < w.heap.size := by
  rcases h.2 with ⟨rfl, _⟩ | ⟨g, cap, cur, e1, e2, e3, e4⟩
  · cases hb
  · rw [e1] at hb
    cases hb
    exact ⟨e2, (Array.getElem?_eq_some_iff.1 e3).1⟩

/-- block F holds a slice for each variable; their rows lie at or above base, each in a block of its own -/
structure FromM (w : World) (F base : Nat) (vs : List Value) (fr : Nat → List Int) : Prop where
  blk : Blk w F 23 vs.toArray
  low : F < base
  own : ∀ j (h : j < vs.length), w.ownsRow base 3 1 vs[j] (fr j).length ((fr j).map (Value.int .i64))
  sep : ∀ i j b (hi : i < vs.length) (hj : j < vs.length), vs[i].ownBlock = some b → vs[j].ownBlock = some b → i = j
section
variable {w w' : World} {F base : Nat} {vs : List Value} {fr : Nat → List Int}
theorem FromM.off {S : List Nat} (h : FromM w F base vs fr) (ho : Off S w w') (hF : F ∉ S) (hS : ∀ s ∈ S, s < base) : FromM w' F base vs fr :=
  ⟨h.blk.off ho hF, h.low, fun j hj => ownsRow_block (h.own j hj) fun b hb => by
    have := ownsRow_lt (h.own j hj) hb
    exact ho.block b this.2 fun e => by have := hS b e; omega, h.sep⟩
theorem FromM.cell (h : FromM w F base vs fr) (j : Nat) (hj : j < vs.length) : w.cell? ⟨F, j, none⟩ = some vs[j] := by
  rw [Blk.cell h.blk]
  simp [hj]
theorem FromM.frozen (h : FromM w F base vs fr) (j : Nat) : w.frozen? ⟨F, j, none⟩ = false := h.blk.frozen j
theorem FromM.row (h : FromM w F base vs fr) (j : Nat) (hj : j < vs.length) : ∃ A c, vs[j] = .slice A (fr j).length c ∧ RdI .i64 w w.heap.size A (fr j).length c (fr j) := by
  have ho := h.own j hj
  obtain ⟨A, c, e⟩ := ownsRow_form ho
  rw [e] at ho
  exact ⟨A, c, e, RdI.of_own ho⟩
/-- an element more, and its slice laid into its cell -/
theorem FromM.add (h : FromM w F base vs fr) {j : Nat} (hj : j < vs.length) {v' : Value} {u : Int} (ho : w'.ownsRow base 3 1 v' ((fr j).length + 1) ((fr j).map (Value.int .i64) ++ [.int .i64 u])) (hg : w.grownBy w' vs[j].ownBlock) (hn : v'.ownBlock = vs[j].ownBlock ∨ v'.ownBlock = some w.heap.size) :
    FromM (w'.setCell ⟨F, j, none⟩ v') F base (vs.set j v') (fun k => if k = j then fr j ++ [u] else fr k) := by
  have hFl := h.blk.lt
  refine ⟨?_, h.low, fun k hk => ?_, fun i k b hi hk ei ek => ?_⟩
  · have := (h.blk.grown hg (fun e => by have := ownsRow_lt (h.own j hj) e.symm; have := h.low; omega)).set_ j v'
    simpa using this
  · have hk' : k < vs.length := by simpa using hk
    by_cases e : k = j
    · subst e
      rw [List.getElem_set, if_pos rfl]
      simp only [if_true]
      have := ownsRow_setCell_below ho (a := ⟨F, k, none⟩) h.low v'
      simpa using this
    · rw [List.getElem_set, if_neg (fun q => e q.symm)]
      simp only [if_neg e]
      have hold := h.own k hk'
      refine ownsRow_setCell_below (ownsRow_block hold fun b hb => ?_) (a := ⟨F, j, none⟩) h.low v'
      have hlt := ownsRow_lt hold hb
      exact hg.block b hlt.2 fun e' => e (h.sep k j b hk' hj hb e'.symm)
  · have hi' : i < vs.length := by simpa using hi
    have hk' : k < vs.length := by simpa using hk
    rw [List.getElem_set] at ei ek
    by_cases e1 : j = i
    · by_cases e2 : j = k
      · omega
      · rw [if_pos e1] at ei
        rw [if_neg e2] at ek
        exfalso
        rcases hn with q | q
        · rw [q] at ei
          exact e2 (h.sep j k b hj hk' ei ek)
        · rw [q] at ei
          have := ownsRow_lt (h.own k hk') ek
          simp at ei
          omega
    · rw [if_neg e1] at ei
      by_cases e2 : j = k
      · rw [if_pos e2] at ek
        exfalso
        rcases hn with q | q
        · rw [q] at ek
          exact e1 (h.sep j i b hj hi' ek ei)
        · rw [q] at ek
          have := ownsRow_lt (h.own i hi') ei
          simp at ek
          omega
      · rw [if_neg e2] at ek
        exact h.sep i k b hi' hk' ei ek
end

end Go.Proofs.Ythabkpkgocafoaa

/- Plain law of the solver: what holds after every raise. -/
namespace Go.Proofs.Ythabkpkgocafoaa
set_option linter.unusedVariables false
set_option linter.unusedSimpArgs false

theorem getD_set (l : List Int) (i j : Nat) (a d : Int) (hi : i < l.length) : (l.set i a).getD j d = if i = j then a else l.getD j d := by
  simp only [List.getD, List.getElem?_set]
  by_cases e : i = j
  · subst e; simp [hi]
  · simp [e]

/-- an inequality under a variable is kept (others are always) -/
def keepsL (is : List Int) (x : IneqD) : Prop := 0 ≤ x.r → leftL is x ≤ max x.c (is.getD x.r.toNat 0)
/-- an inequality over n variables -/
structure OverL (n : Nat) (x : IneqD) : Prop where
  lv : x.lc = 0 → 0 ≤ x.lv ∧ x.lv < n
  r : x.r < n
  lc : x.lc ≤ 3
structure SolL (xs : List IneqD) (low asg : List Int) : Prop where
  len : asg.length = low.length
  low : ∀ v, v < low.length → low.getD v 0 ≤ asg.getD v 0
  keeps : ∀ x ∈ xs, keepsL asg x
theorem raiseB_iff (is : List Int) (x : IneqD) : raiseB is x = true ↔ 0 ≤ x.r ∧ max x.c (is.getD x.r.toNat 0) < leftL is x := by
  unfold raiseB; simp
theorem raiseB_not (is : List Int) (x : IneqD) (h : raiseB is x = false) : keepsL is x := by
  intro hr
  unfold raiseB at h
  simp only [Bool.and_eq_false_iff, decide_eq_false_iff_not] at h
  omega

/-- why a variable is as it is -/
def WhyL (xs : List IneqD) (low is why : List Int) (rank : Nat → Nat) (v : Nat) : Prop :=
  (why.getD v (-1) = -1 ∧ is.getD v 0 = low.getD v 0) ∨
  ∃ (k : Nat) (x : IneqD), why.getD v (-1) = (k : Int) ∧ xs[k]? = some x ∧ x.r = (v : Int) ∧ x.c < is.getD v 0 ∧ is.getD v 0 ≤ leftL is x ∧ (x.lc = 0 → leftL is x = is.getD v 0 → rank x.lv.toNat < rank v)
structure InvL (xs : List IneqD) (low is why : List Int) : Prop where
  il : is.length = low.length
  wl : why.length = low.length
  le : ∀ v, v < low.length → low.getD v 0 ≤ is.getD v 0
  top : ∀ v, v < low.length → is.getD v 0 ≤ 3
  rk : ∃ (rank : Nat → Nat) (T : Nat), (∀ v, rank v ≤ T) ∧ ∀ v, v < low.length → WhyL xs low is why rank v
  least : ∀ asg, SolL xs low asg → ∀ v, v < low.length → is.getD v 0 ≤ asg.getD v 0

theorem InvL.start (xs : List IneqD) (low : List Int) (h3 : ∀ v, v < low.length → low.getD v 0 ≤ 3) : InvL xs low low (List.replicate low.length (-1)) :=
  ⟨rfl, by simp, fun _ _ => Int.le_refl _, h3, ⟨fun _ => 0, 0, fun _ => Nat.le_refl _, fun v hv => Or.inl ⟨by simp [List.getD, hv], rfl⟩⟩, fun asg h => h.low⟩

theorem leftL_top {n : Nat} {x : IneqD} {is : List Int} (hx : OverL n x) (ht : ∀ v, v < n → is.getD v 0 ≤ 3) : leftL is x ≤ 3 := by
  unfold leftL
  split
  · rename_i h; have := hx.lv h; exact ht _ (by omega)
  · exact hx.lc

theorem leftL_set {is : List Int} {r : Nat} {L : Int} (y : IneqD) (hr : r < is.length) : leftL (is.set r L) y = if y.lc = 0 ∧ r = y.lv.toNat then L else leftL is y := by
  unfold leftL
  rw [getD_set _ _ _ _ _ hr]
  by_cases h0 : y.lc = 0
  · by_cases h1 : r = y.lv.toNat
    · simp [h0, h1]
    · simp [h0, h1]
  · simp [h0]

theorem InvL.raise {xs : List IneqD} {low is why : List Int} (h : InvL xs low is why) {i : Nat} {x : IneqD} (hi : xs[i]? = some x) (hx : OverL low.length x) (hy : raiseB is x = true) :
    InvL xs low (is.set x.r.toNat (leftL is x)) (why.set x.r.toNat i) := by
  obtain ⟨hr0, hlt⟩ := (raiseB_iff _ _).1 hy
  obtain ⟨lv, lc, c, r⟩ := x
  dsimp only at *
  obtain ⟨k, rfl⟩ : ∃ k : Nat, r = (k : Int) := ⟨r.toNat, (Int.toNat_of_nonneg hr0).symm⟩
  rw [Int.toNat_natCast] at *
  have hk : k < low.length := by have := hx.r; dsimp only at this; omega
  have hki : k < is.length := by rw [h.il]; exact hk
  have hkw : k < why.length := by rw [h.wl]; exact hk
  generalize hL : leftL is ⟨lv, lc, c, (k : Int)⟩ = L at *
  refine ⟨by simp [h.il], by simp [h.wl], fun v hv => ?_, fun v hv => ?_, ?_, fun asg ha v hv => ?_⟩
  · rw [getD_set _ _ _ _ _ hki]
    have := h.le v hv
    split
    · rename_i e; subst e; omega
    · exact this
  · rw [getD_set _ _ _ _ _ hki]
    split
    · rw [← hL]; exact leftL_top hx h.top
    · exact h.top v hv
  · obtain ⟨rank, T, hT, hW⟩ := h.rk
    refine ⟨fun v => if v = k then T + 1 else rank v, T + 1, fun v => ?_, fun v hv => ?_⟩
    · have := hT v
      dsimp only
      split <;> omega
    · by_cases e : k = v
      · subst e
        refine Or.inr ⟨i, ⟨lv, lc, c, (k : Int)⟩, ?_, hi, rfl, ?_, ?_, ?_⟩
        · rw [getD_set _ _ _ _ _ hkw, if_pos rfl]
        · rw [getD_set _ _ _ _ _ hki, if_pos rfl]; dsimp only; omega
        · rw [getD_set _ _ _ _ _ hki, if_pos rfl, leftL_set _ hki, hL]; split <;> omega
        · intro h0 _
          dsimp only at h0 ⊢
          have hne : lv.toNat ≠ k := by
            intro e
            have : L = is.getD k 0 := by rw [← hL]; unfold leftL; dsimp only; rw [if_pos h0, e]
            omega
          rw [if_neg hne, if_pos rfl]
          have := hT lv.toNat
          omega
      · have hv' : ¬ v = k := fun e' => e e'.symm
        rcases hW v hv with ⟨a, b⟩ | ⟨j, y, a, b, c', d, f, g⟩
        · exact Or.inl ⟨by rw [getD_set _ _ _ _ _ hkw, if_neg e, a], by rw [getD_set _ _ _ _ _ hki, if_neg e, b]⟩
        · refine Or.inr ⟨j, y, by rw [getD_set _ _ _ _ _ hkw, if_neg e, a], b, c', by rw [getD_set _ _ _ _ _ hki, if_neg e]; exact d, ?_, ?_⟩
          · rw [getD_set _ _ _ _ _ hki, if_neg e, leftL_set _ hki]
            split
            · rename_i hh
              have : leftL is y = is.getD k 0 := by unfold leftL; rw [if_pos hh.1, ← hh.2]
              omega
            · exact f
          · intro h0 hq
            rw [getD_set _ _ _ _ _ hki, if_neg e, leftL_set _ hki] at hq
            by_cases hh : k = y.lv.toNat
            · rw [if_pos ⟨h0, hh⟩] at hq
              have : leftL is y = is.getD k 0 := by unfold leftL; rw [if_pos h0, ← hh]
              omega
            · rw [if_neg (fun z => hh z.2)] at hq
              have := g h0 hq
              dsimp only
              rw [if_neg (fun z => hh z.symm), if_neg hv']
              exact this
  · rw [getD_set _ _ _ _ _ hki]
    split
    · rename_i e
      subst e
      have hm := ha.keeps _ (List.mem_of_getElem? hi) (by dsimp only; omega)
      dsimp only at hm
      rw [Int.toNat_natCast] at hm
      have hle : L ≤ leftL asg ⟨lv, lc, c, (k : Int)⟩ := by
        rw [← hL]
        unfold leftL
        dsimp only
        split
        · rename_i h0
          have := hx.lv h0
          dsimp only at this
          exact h.least asg ha _ (by omega)
        · exact Int.le_refl _
      omega
    · exact h.least asg ha v hv

end Go.Proofs.Ythabkpkgocafoaa

/- Plain law of the solver: the core. -/
namespace Go.Proofs.Ythabkpkgocafoaa
set_option linter.unusedVariables false
set_option linter.unusedSimpArgs false

/-- an inequality holds under an assignment -/
def holdL (asg : List Int) (x : IneqD) : Prop := leftL asg x ≤ if 0 ≤ x.r then max x.c (asg.getD x.r.toNat 0) else x.c
theorem holdL.keeps {asg : List Int} {x : IneqD} (h : holdL asg x) : keepsL asg x := fun hr => by unfold holdL at h; rwa [if_pos hr] at h
theorem keepsL.hold {asg : List Int} {x : IneqD} (h : keepsL asg x) (hr : 0 ≤ x.r) : holdL asg x := by unfold holdL; rw [if_pos hr]; exact h hr

/-- the way back from an inequality -/
inductive ChainL (xs : List IneqD) (low why : List Int) : IneqD → Int → List Nat → Prop
  | stop (x : IneqD) (over : Int) (h : ¬ (x.lc = 0 ∧ low.getD x.lv.toNat 0 ≤ over)) : ChainL xs low why x over []
  | step (x y : IneqD) (over : Int) (k : Nat) (l : List Nat) (h0 : x.lc = 0) (h1 : low.getD x.lv.toNat 0 ≤ over) (hk : why.getD x.lv.toNat (-1) = (k : Int)) (hy : xs[k]? = some y) (ht : ChainL xs low why y (max over y.c) l) : ChainL xs low why x over (k :: l)

structure EndL (xs : List IneqD) (low is why : List Int) : Prop where
  inv : InvL xs low is why
  closed : ∀ x ∈ xs, keepsL is x
  over : ∀ x ∈ xs, OverL low.length x

theorem EndL.next {xs : List IneqD} {low is why : List Int} {rank : Nat → Nat} (h : EndL xs low is why) (hW : ∀ v, v < low.length → WhyL xs low is why rank v) {x : IneqD} {over : Int} (hx : OverL low.length x) (ho : over < leftL is x) (h0 : x.lc = 0) (h1 : low.getD x.lv.toNat 0 ≤ over) :
    ∃ (k : Nat) (y : IneqD), why.getD x.lv.toNat (-1) = (k : Int) ∧ xs[k]? = some y ∧ y.r = x.lv ∧ 0 ≤ y.r ∧ OverL low.length y ∧ max over y.c < leftL is y ∧ (y.lc = 0 → rank y.lv.toNat < rank x.lv.toNat) := by
  obtain ⟨hv0, hv1⟩ := hx.lv h0
  obtain ⟨v, hv⟩ : ∃ v : Nat, x.lv = (v : Int) := ⟨x.lv.toNat, (Int.toNat_of_nonneg hv0).symm⟩
  have hvn : v < low.length := by omega
  have hl : leftL is x = is.getD v 0 := by unfold leftL; rw [if_pos h0, hv, Int.toNat_natCast]
  have hvt : x.lv.toNat = v := by omega
  rw [hvt] at h1 ⊢
  rcases hW v hvn with ⟨a, b⟩ | ⟨k, y, a, b, c, d, f, g⟩
  · omega
  · have hm := List.mem_of_getElem? b
    have hc := h.closed y hm (by omega)
    rw [c, Int.toNat_natCast] at hc
    have e : leftL is y = is.getD v 0 := by omega
    exact ⟨k, y, a, b, c.trans hv.symm, by omega, h.over y hm, by omega, fun h2 => g h2 e⟩

theorem EndL.chain {xs : List IneqD} {low is why : List Int} {rank : Nat → Nat} (h : EndL xs low is why) (hW : ∀ v, v < low.length → WhyL xs low is why rank v) :
    ∀ (f : Nat) (x : IneqD) (over : Int), OverL low.length x → over < leftL is x → (x.lc = 0 → rank x.lv.toNat < f) → ∃ l, ChainL xs low why x over l := by
  intro f
  induction f with
  | zero =>
    intro x over hx ho hr
    by_cases hh : x.lc = 0 ∧ low.getD x.lv.toNat 0 ≤ over
    · exact absurd (hr hh.1) (Nat.not_lt_zero _)
    · exact ⟨[], .stop x over hh⟩
  | succ f ih =>
    intro x over hx ho hr
    by_cases hh : x.lc = 0 ∧ low.getD x.lv.toNat 0 ≤ over
    · obtain ⟨k, y, a, b, c, d, e, g, i⟩ := h.next hW hx ho hh.1 hh.2
      obtain ⟨l, hl⟩ := ih y (max over y.c) e g (fun h2 => by have := i h2; have := hr hh.1; omega)
      exact ⟨k :: l, .step x y over k l hh.1 hh.2 a b hl⟩
    · exact ⟨[], .stop x over hh⟩

/-- what all of a way are: raisers, ranked downward -/
theorem ChainL.mem {xs : List IneqD} {low is why : List Int} {rank : Nat → Nat} (h : EndL xs low is why) (hW : ∀ v, v < low.length → WhyL xs low is why rank v) {x : IneqD} {over : Int} {l : List Nat} (hc : ChainL xs low why x over l) :
    OverL low.length x → over < leftL is x → ∀ j ∈ l, x.lc = 0 ∧ ∃ y, xs[j]? = some y ∧ OverL low.length y ∧ 0 ≤ y.r ∧ rank y.r.toNat ≤ rank x.lv.toNat ∧ (y.lc = 0 → rank y.lv.toNat < rank y.r.toNat) := by
  induction hc with
  | stop x over hh => intro _ _ j hj; cases hj
  | step x y over k l h0 h1 hk hy ht ih =>
    intro hx ho j hj
    refine ⟨h0, ?_⟩
    obtain ⟨k', y', a, b, c, d, e, g, i⟩ := h.next hW hx ho h0 h1
    have hkk : k' = k := by rw [a] at hk; omega
    subst hkk
    rw [b] at hy
    cases hy
    rcases List.mem_cons.1 hj with rfl | hj
    · exact ⟨y, b, e, d, by rw [c]; exact Nat.le_refl _, by rw [c]; exact i⟩
    · obtain ⟨q0, z, z1, z2, z3, z4, z5⟩ := ih e g j hj
      have := i q0
      exact ⟨z, z1, z2, z3, by omega, z5⟩

/-- all of a way, and what it came from, cannot hold together -/
theorem ChainL.no {xs : List IneqD} {low is why : List Int} {rank : Nat → Nat} (h : EndL xs low is why) (hW : ∀ v, v < low.length → WhyL xs low is why rank v) {x : IneqD} {over : Int} {l : List Nat} (hc : ChainL xs low why x over l) (asg : List Int) (hlow : ∀ v, v < low.length → low.getD v 0 ≤ asg.getD v 0) :
    OverL low.length x → over < leftL is x → (∀ j ∈ l, ∀ y, xs[j]? = some y → keepsL asg y) → over < leftL asg x := by
  induction hc with
  | stop x over hh =>
    intro hx ho _
    unfold leftL at ho ⊢
    by_cases h0 : x.lc = 0
    · rw [if_pos h0]
      have := hx.lv h0
      have h2 := hlow x.lv.toNat (by omega)
      have h3 : ¬ low.getD x.lv.toNat 0 ≤ over := fun z => hh ⟨h0, z⟩
      omega
    · rw [if_neg h0] at ho ⊢; exact ho
  | step x y over k l h0 h1 hk hy ht ih =>
    intro hx ho hall
    obtain ⟨k', y', a, b, c, d, e, g, i⟩ := h.next hW hx ho h0 h1
    have hkk : k' = k := by rw [a] at hk; omega
    subst hkk
    rw [b] at hy
    cases hy
    have h2 := ih e g (fun j hj => hall j (List.mem_cons_of_mem _ hj))
    have h3 := hall _ List.mem_cons_self y b d
    rw [c] at h3
    have h4 : leftL asg x = asg.getD x.lv.toNat 0 := by unfold leftL; rw [if_pos h0]
    omega

theorem leftL_le3 {n : Nat} {x : IneqD} {asg : List Int} (hx : OverL n x) (ht : ∀ v, v < n → asg.getD v 0 ≤ 3) : leftL asg x ≤ 3 := leftL_top hx ht

/-- without any one of a way, what is left of it can hold, and the way's first left side lies low -/
theorem ChainL.some {xs : List IneqD} {low is why : List Int} {rank : Nat → Nat} (h : EndL xs low is why) (hW : ∀ v, v < low.length → WhyL xs low is why rank v) (hlow3 : ∀ v, v < low.length → low.getD v 0 ≤ 3) {x : IneqD} {over : Int} {l : List Nat} (hc : ChainL xs low why x over l) :
    OverL low.length x → over < leftL is x → ∀ (l1 : List Nat) (k : Nat) (l2 : List Nat), l = l1 ++ k :: l2 →
      ∃ asg : List Int, asg.length = low.length ∧ (∀ v, v < low.length → low.getD v 0 ≤ asg.getD v 0 ∧ asg.getD v 0 ≤ 3) ∧ leftL asg x ≤ over ∧ (∀ j ∈ l1 ++ l2, ∀ y, xs[j]? = Option.some y → keepsL asg y) ∧ ∀ v, v < low.length → rank x.lv.toNat < rank v → asg.getD v 0 = 3 := by
  induction hc with
  | stop x over hh => intro _ _ l1 k l2 hl; exact absurd hl.symm (by simp)
  | step x y over k l h0 h1 hk hy ht ih =>
    intro hx ho l1 k0 l2 hl
    have hmem := ChainL.mem h hW (.step x y over k l h0 h1 hk hy ht) hx ho
    obtain ⟨hv0, hv1⟩ := hx.lv h0
    have hvn : x.lv.toNat < low.length := by omega
    have ho3 : over ≤ 3 := by have := leftL_top hx h.inv.top; omega
    obtain ⟨k', y', a, b, c, d, e, g, i⟩ := h.next hW hx ho h0 h1
    have hkk : k' = k := by rw [a] at hk; omega
    subst hkk
    rw [b] at hy
    cases hy
    -- a variable of the rest is not x's
    have hrest : ∀ j ∈ l, ∃ z, xs[j]? = Option.some z ∧ OverL low.length z ∧ 0 ≤ z.r ∧ z.r.toNat ≠ x.lv.toNat ∧ (z.lc = 0 → z.lv.toNat ≠ x.lv.toNat) := by
      intro j hj
      obtain ⟨q0, z, z1, z2, z3, z4, z5⟩ := ChainL.mem h hW ht e g j hj
      have := i q0
      refine ⟨z, z1, z2, z3, fun e' => ?_, fun hz e' => ?_⟩
      · rw [e'] at z4; omega
      · have := z5 hz; rw [e'] at this; omega
    cases l1 with
    | nil =>
      simp only [List.nil_append, List.cons.injEq] at hl
      obtain ⟨rfl, rfl⟩ := hl
      have hl3 : x.lv.toNat < (List.replicate low.length (3 : Int)).length := by simpa using hvn
      have hg3 : ∀ v, v < low.length → (List.replicate low.length (3 : Int)).getD v 0 = 3 := fun v hv => by simp [List.getD, hv]
      refine ⟨(List.replicate low.length 3).set x.lv.toNat over, by simp, fun v hv => ?_, ?_, ?_, ?_⟩
      · rw [getD_set _ _ _ _ _ hl3]
        split
        · rename_i e'; subst e'; exact ⟨h1, ho3⟩
        · rw [hg3 v hv]; exact ⟨hlow3 v hv, Int.le_refl _⟩
      · rw [leftL_set _ hl3, if_pos ⟨h0, rfl⟩]; exact Int.le_refl _
      · intro j hj z hz hzr
        obtain ⟨z', a1, a2, a3, a4, a5⟩ := hrest j (by simpa using hj)
        rw [hz] at a1
        cases a1
        have hzn : z.r.toNat < low.length := by have := a2.r; omega
        rw [getD_set _ _ _ _ _ hl3, if_neg (fun e' => a4 e'.symm), hg3 _ hzn]
        have : leftL ((List.replicate low.length 3).set x.lv.toNat over) z ≤ 3 := leftL_top a2 fun v hv => by
          rw [getD_set _ _ _ _ _ hl3]
          split
          · exact ho3
          · rw [hg3 v hv]; exact Int.le_refl _
        omega
      · intro v hv hr
        rw [getD_set _ _ _ _ _ hl3, if_neg (fun e' => by subst e'; omega), hg3 v hv]
    | cons k1 l1 =>
      simp only [List.cons_append, List.cons.injEq] at hl
      obtain ⟨rfl, hl⟩ := hl
      obtain ⟨asg, s1, s2, s3, s4, s5⟩ := ih e g l1 k0 l2 hl
      have hla : x.lv.toNat < asg.length := by omega
      have hy0 : y.lc = 0 := (ChainL.mem h hW ht e g k0 (by rw [hl]; simp)).1
      have hyr := i hy0
      refine ⟨asg.set x.lv.toNat over, by simpa using s1, fun v hv => ?_, ?_, ?_, ?_⟩
      · rw [getD_set _ _ _ _ _ hla]
        split
        · rename_i e'; subst e'; exact ⟨h1, ho3⟩
        · exact s2 v hv
      · rw [leftL_set _ hla, if_pos ⟨h0, rfl⟩]; exact Int.le_refl _
      · intro j hj z hz hzr
        rcases List.mem_cons.1 hj with rfl | hj
        · rw [b] at hz
          cases hz
          rw [leftL_set _ hla, if_neg (fun e' => by have := e'.2; rw [this] at hyr; omega), getD_set _ _ _ _ _ hla, if_pos (by rw [c])]
          omega
        · have hjl : j ∈ l := by
            rw [hl]
            rcases List.mem_append.1 hj with q | q
            · exact List.mem_append.2 (Or.inl q)
            · exact List.mem_append.2 (Or.inr (List.mem_cons_of_mem _ q))
          obtain ⟨z', a1, a2, a3, a4, a5⟩ := hrest j hjl
          rw [hz] at a1
          cases a1
          have := s4 j hj z hz hzr
          rw [leftL_set _ hla, if_neg (fun e' => a5 e'.1 e'.2.symm), getD_set _ _ _ _ _ hla, if_neg (fun e' => a4 e'.symm)]
          exact this
      · intro v hv hr
        rw [getD_set _ _ _ _ _ hla, if_neg (fun e' => by subst e'; omega)]
        exact s5 v hv (by omega)

/-- a way has no twins -/
theorem ChainL.nodup {xs : List IneqD} {low is why : List Int} {rank : Nat → Nat} (h : EndL xs low is why) (hW : ∀ v, v < low.length → WhyL xs low is why rank v) {x : IneqD} {over : Int} {l : List Nat} (hc : ChainL xs low why x over l) :
    OverL low.length x → over < leftL is x → l.Nodup := by
  induction hc with
  | stop x over hh => intro _ _; exact List.nodup_nil
  | step x y over k l h0 h1 hk hy ht ih =>
    intro hx ho
    obtain ⟨k', y', a, b, c, d, e, g, i⟩ := h.next hW hx ho h0 h1
    have hkk : k' = k := by rw [a] at hk; omega
    subst hkk
    rw [b] at hy
    cases hy
    refine List.nodup_cons.2 ⟨fun hm => ?_, ih e g⟩
    obtain ⟨q0, z, z1, z2, z3, z4, z5⟩ := ChainL.mem h hW ht e g _ hm
    rw [b] at z1
    cases z1
    have := i q0
    rw [c] at z4
    omega

end Go.Proofs.Ythabkpkgocafoaa

/- Plain law of the solver: solutions, least ones, cores. -/
namespace Go.Proofs.Ythabkpkgocafoaa
set_option linter.unusedVariables false
set_option linter.unusedSimpArgs false

/-- a solution, above low -/
structure SolvL (xs : List IneqD) (low asg : List Int) : Prop where
  len : asg.length = low.length
  low : ∀ v, v < low.length → low.getD v 0 ≤ asg.getD v 0
  hold : ∀ x ∈ xs, holdL asg x
/-- the least solution -/
structure LeastSolL (xs : List IneqD) (low is : List Int) : Prop where
  sol : SolvL xs low is
  least : ∀ asg, SolvL xs low asg → ∀ v, v < low.length → is.getD v 0 ≤ asg.getD v 0
theorem SolvL.sol {xs : List IneqD} {low asg : List Int} (h : SolvL xs low asg) : SolL xs low asg := ⟨h.len, h.low, fun x hx => (h.hold x hx).keeps⟩
theorem SolvL.sub {xs ys : List IneqD} {low asg : List Int} (h : SolvL xs low asg) (hs : ∀ x ∈ ys, x ∈ xs) : SolvL ys low asg := ⟨h.len, h.low, fun x hx => h.hold x (hs x hx)⟩

theorem LeastSolL.unique {xs : List IneqD} {low a b : List Int} (ha : LeastSolL xs low a) (hb : LeastSolL xs low b) : a = b := by
  apply List.ext_getElem (by rw [ha.sol.len, hb.sol.len])
  intro i h1 h2
  have hi : i < low.length := by have := ha.sol.len; omega
  have e1 := ha.least b hb.sol i hi
  have e2 := hb.least a ha.sol i hi
  simp only [List.getD, List.getElem?_eq_getElem h1, List.getElem?_eq_getElem h2, Option.getD_some] at e1 e2
  omega

theorem EndL.ok {xs : List IneqD} {low is why : List Int} (h : EndL xs low is why) (hn : ∀ x ∈ xs, x.r < 0 → leftL is x ≤ x.c) : LeastSolL xs low is := by
  refine ⟨⟨h.inv.il, h.inv.le, fun x hx => ?_⟩, fun asg ha => h.inv.least asg ha.sol⟩
  by_cases hr : 0 ≤ x.r
  · exact (h.closed x hx).hold hr
  · unfold holdL; rw [if_neg hr]; exact hn x hx (by omega)

/-- what grows: the left side under a greater assignment -/
theorem leftL_mono {n : Nat} {x : IneqD} {a b : List Int} (hx : OverL n x) (hab : ∀ v, v < n → a.getD v 0 ≤ b.getD v 0) : leftL a x ≤ leftL b x := by
  unfold leftL
  split
  · rename_i h0; have := hx.lv h0; exact hab _ (by omega)
  · exact Int.le_refl _

theorem InvL.clash {xs : List IneqD} {low is why : List Int} (h : InvL xs low is why) {x : IneqD} (hm : x ∈ xs) (hx : OverL low.length x) (hr : x.r < 0) (hc : x.c < leftL is x) (asg : List Int) : ¬ SolvL xs low asg := by
  intro ha
  have h1 := ha.hold x hm
  unfold holdL at h1
  rw [if_neg (by omega)] at h1
  have := leftL_mono hx (h.least asg ha.sol)
  omega

/-- the core: together unsolvable, without any one solvable -/
theorem EndL.core {xs : List IneqD} {low is why : List Int} (h : EndL xs low is why) (hlow3 : ∀ v, v < low.length → low.getD v 0 ≤ 3) {i : Nat} {x : IneqD} (hi : xs[i]? = some x) (hr : x.r < 0) (hc : x.c < leftL is x) {l : List Nat} (hl : ChainL xs low why x x.c l) :
    (i :: l).Nodup ∧ (∀ j ∈ i :: l, j < xs.length) ∧
    (∀ asg : List Int, asg.length = low.length → (∀ v, v < low.length → low.getD v 0 ≤ asg.getD v 0) → ¬ ∀ j ∈ i :: l, ∀ y, xs[j]? = some y → holdL asg y) ∧
    ∀ k ∈ i :: l, ∃ asg : List Int, asg.length = low.length ∧ (∀ v, v < low.length → low.getD v 0 ≤ asg.getD v 0) ∧ ∀ j ∈ i :: l, j ≠ k → ∀ y, xs[j]? = some y → holdL asg y := by
  obtain ⟨rank, T, hT, hW⟩ := h.inv.rk
  have hx := h.over x (List.mem_of_getElem? hi)
  have hnd := hl.nodup h hW hx hc
  have hmem := hl.mem h hW hx hc
  have hil : i ∉ l := fun hm => by
    obtain ⟨_, y, e, _, h0, _⟩ := hmem i hm
    rw [hi] at e; cases e; omega
  refine ⟨List.nodup_cons.2 ⟨hil, hnd⟩, fun j hj => ?_, fun asg ha hlow hall => ?_, fun k hk => ?_⟩
  · rcases List.mem_cons.1 hj with rfl | hj
    · exact (List.getElem?_eq_some_iff.1 hi).1
    · obtain ⟨_, y, e, _⟩ := hmem j hj
      exact (List.getElem?_eq_some_iff.1 e).1
  · have h1 := hl.no h hW asg hlow hx hc (fun j hj y hy => (hall j (List.mem_cons_of_mem _ hj) y hy).keeps)
    have h2 := hall i List.mem_cons_self x hi
    unfold holdL at h2
    rw [if_neg (by omega)] at h2
    omega
  · rcases List.mem_cons.1 hk with rfl | hk
    · have hg3 : ∀ v, v < low.length → (List.replicate low.length (3 : Int)).getD v 0 = 3 := fun v hv => by simp [List.getD, hv]
      refine ⟨List.replicate low.length 3, by simp, fun v hv => by rw [hg3 v hv]; exact hlow3 v hv, fun j hj hne y hy => ?_⟩
      rcases List.mem_cons.1 hj with rfl | hj
      · exact absurd rfl hne
      · obtain ⟨_, z, e, z1, z2, _⟩ := hmem j hj
        rw [hy] at e
        cases e
        unfold holdL
        rw [if_pos z2, hg3 _ (by have := z1.r; omega)]
        have := leftL_top z1 (is := List.replicate low.length 3) (fun v hv => by rw [hg3 v hv]; exact Int.le_refl _)
        omega
    · obtain ⟨l1, l2, e⟩ := List.append_of_mem hk
      obtain ⟨asg, s1, s2, s3, s4, _⟩ := hl.some h hW hlow3 hx hc l1 k l2 e
      refine ⟨asg, s1, fun v hv => (s2 v hv).1, fun j hj hne y hy => ?_⟩
      rcases List.mem_cons.1 hj with rfl | hj
      · rw [hi] at hy
        cases hy
        unfold holdL
        rw [if_neg (by omega)]
        exact s3
      · have hj' : j ∈ l1 ++ l2 := by
          rw [e] at hj
          rcases List.mem_append.1 hj with q | q
          · exact List.mem_append.2 (Or.inl q)
          · rcases List.mem_cons.1 q with q | q
            · exact absurd q hne
            · exact List.mem_append.2 (Or.inr q)
        obtain ⟨_, z, e', z1, z2, _⟩ := hmem j hj
        rw [hy] at e'
        cases e'
        exact (s4 j hj' y hy).hold z2

end Go.Proofs.Ythabkpkgocafoaa

/- The solver's whole state, and what raise and put do to it. -/
namespace Go.Proofs.Ythabkpkgocafoaa
set_option linter.unusedVariables false
set_option linter.unusedSimpArgs false
open Go.RowKit Go.Conc

/-- where all lies -/
structure Place where
  g : Nat
  F : Nat
  I : Nat
  Y : Nat
  gw : Nat
  W : Nat
  gt : Nat
  C : Nat
  B : Nat
  base : Nat
  n : Nat
  Al : Option Addr
  nl : Nat
  cl : Nat
  lowV : Value
  ci : Nat
  cy : Nat
  cf : Nat
structure Place.ok (p : Place) : Prop where
  nd : [p.g, p.F, p.I, p.Y, p.gw, p.W, p.gt, p.C].Nodup
  lt : ∀ b ∈ [p.g, p.F, p.I, p.Y, p.gw, p.W, p.gt, p.C], p.B ≤ b ∧ b < p.base
  n20 : p.n ≤ 1048576
  ci : p.n ≤ p.ci
  ci2 : p.ci ≤ maxLen
  B : p.B ≤ p.base

structure RunSt (p : Place) (w0 w : World) (xs : List IneqD) (low is why : List Int) (vs : List Value) (fr : Nat → List Int) (flags : List Bool) (q : List Int) : Prop where
  ok : p.ok
  s0 : w.cell? ⟨p.g, 0, none⟩ = some (.slice p.Al p.nl p.cl)
  s2 : w.cell? ⟨p.g, 2, none⟩ = some (.slice (some ⟨p.I, 0, none⟩) p.n p.ci)
  s3 : w.cell? ⟨p.g, 3, none⟩ = some (.slice (some ⟨p.Y, 0, none⟩) p.n p.cy)
  s4 : w.cell? ⟨p.g, 4, none⟩ = some (.slice (some ⟨p.F, 0, none⟩) p.n p.cf)
  size : p.base ≤ w.heap.size
  xsM : IneqsV w p.B p.Al p.nl p.cl xs
  lowl : low.length = p.n
  rI : RowC w p.I 27 .u8 is
  rY : RowC w p.Y 3 .i64 why
  vl : vs.length = p.n
  frm : FromM w p.F p.base vs fr
  qs : QSt w p.gw p.W p.gt p.C p.n flags q
  inv : InvL xs low is why
  over : ∀ x ∈ xs, OverL p.n x
  off : Off [p.I, p.Y, p.F, p.W, p.C] w0 w

theorem cell_off {S : List Nat} {w w' : World} (h : Off S w w') {b i : Nat} {v : Value} (hc : w.cell? ⟨b, i, none⟩ = some v) (hb : b ∉ S) : w'.cell? ⟨b, i, none⟩ = some v :=
  (World.cell?_of_block (h.block b (block_lt_of_cell hc) hb)).trans hc

theorem QSt.off {S : List Nat} {w w' : World} {gw W gt C n : Nat} {flags : List Bool} {q : List Int} (h : QSt w gw W gt C n flags q) (ho : Off S w w') (h1 : gw ∉ S) (h2 : W ∉ S) (h3 : gt ∉ S) (h4 : C ∉ S) : QSt w' gw W gt C n flags q := by
  obtain ⟨a, b, c, d, s, r, e⟩ := h
  exact ⟨a, b.off ho h1, c.off ho h2, d.off ho h3, s, r, by rw [ho.block C (Array.getElem?_eq_some_iff.1 e).1 h4]; exact e⟩

section
variable {p : Place} {w0 w w' : World} {xs : List IneqD} {low is why : List Int} {vs : List Value} {fr : Nat → List Int} {flags : List Bool} {q : List Int}
theorem Place.ok.off (h : p.ok) : (p.g ∉ [p.I, p.Y] ∧ p.F ∉ [p.I, p.Y] ∧ p.gw ∉ [p.I, p.Y] ∧ p.W ∉ [p.I, p.Y] ∧ p.gt ∉ [p.I, p.Y] ∧ p.C ∉ [p.I, p.Y] ∧ p.I ≠ p.Y) ∧ (p.g ∉ [p.W, p.C] ∧ p.F ∉ [p.W, p.C] ∧ p.I ∉ [p.W, p.C] ∧ p.Y ∉ [p.W, p.C]) := by
  have := h.nd
  simp only [List.nodup_cons, List.mem_cons, List.not_mem_nil, or_false, not_or] at this
  simp only [List.mem_cons, List.not_mem_nil, or_false, not_or]
  obtain ⟨⟨a1, a2, a3, a4, a5, a6, a7⟩, ⟨b1, b2, b3, b4, b5, b6⟩, ⟨c1, c2, c3, c4, c5⟩, ⟨d1, d2, d3, d4⟩, ⟨e1, e2, e3⟩, ⟨f1, f2⟩, g1, _⟩ := this
  exact ⟨⟨⟨a2, a3⟩, ⟨b1, b2⟩, ⟨Ne.symm c2, Ne.symm d1⟩, ⟨Ne.symm c3, Ne.symm d2⟩, ⟨Ne.symm c4, Ne.symm d3⟩, ⟨Ne.symm c5, Ne.symm d4⟩, c1⟩, ⟨a5, a7⟩, ⟨b4, b6⟩, ⟨c3, c5⟩, d2, d4⟩

/-- fresh blocks alone -/
theorem RunSt.below (h : RunSt p w0 w xs low is why vs fr flags q) (hb : Below w.heap.size w w') : RunSt p w0 w' xs low is why vs fr flags q := by
  have ho : Off [] w w' := Off.of_below hb
  have n0 : ∀ b : Nat, b ∉ ([] : List Nat) := fun b => by simp
  exact ⟨h.ok, cell_off ho h.s0 (n0 _), cell_off ho h.s2 (n0 _), cell_off ho h.s3 (n0 _), cell_off ho h.s4 (n0 _), Nat.le_trans h.size hb.size, h.xsM.below (hb.mono (Nat.le_trans h.ok.B h.size)), h.lowl, h.rI.off ho (n0 _), h.rY.off ho (n0 _), h.vl, h.frm.off ho (n0 _) (fun s hs => by cases hs), h.qs.off ho (n0 _) (n0 _) (n0 _) (n0 _), h.inv, h.over, h.off.trans (ho.mono (by simp))⟩
theorem RunSt.il (h : RunSt p w0 w xs low is why vs fr flags q) : is.length = p.n := h.inv.il.trans h.lowl
theorem RunSt.lt (h : RunSt p w0 w xs low is why vs fr flags q) {b : Nat} (hb : b ∈ [p.g, p.F, p.I, p.Y, p.gw, p.W, p.gt, p.C]) : b < w.heap.size := Nat.lt_of_lt_of_le (h.ok.lt b hb).2 h.size

theorem RunSt.raised (h : RunSt p w0 w xs low is why vs fr flags q) {i : Nat} {x : IneqD} (hi : xs[i]? = some x) (hy : raiseB is x = true) (ho : Off [p.I, p.Y] w w') (h1 : RowC w' p.I 27 .u8 (is.set x.r.toNat (leftL is x))) (h2 : RowC w' p.Y 3 .i64 (why.set x.r.toNat i)) :
    RunSt p w0 w' xs low (is.set x.r.toNat (leftL is x)) (why.set x.r.toNat i) vs fr flags q := by
  obtain ⟨⟨a1, a2, a3, a4, a5, a6, _⟩, _⟩ := Place.ok.off h.ok
  have hB : ∀ s ∈ [p.I, p.Y], p.B ≤ s ∧ s < p.base := fun s hs => h.ok.lt s (by simp only [List.mem_cons, List.not_mem_nil, or_false] at hs ⊢; rcases hs with e | e <;> simp [e])
  exact ⟨h.ok, cell_off ho h.s0 a1, cell_off ho h.s2 a1, cell_off ho h.s3 a1, cell_off ho h.s4 a1, Nat.le_trans h.size ho.size, h.xsM.below (ho.below (fun s hs => (hB s hs).1) (Nat.le_trans h.ok.B h.size)), h.lowl, h1, h2, h.vl, h.frm.off ho a2 (fun s hs => (hB s hs).2), h.qs.off ho a3 a4 a5 a6, h.inv.raise hi (by rw [h.lowl]; exact h.over x (List.mem_of_getElem? hi)) hy, h.over, h.off.trans (ho.mono (by simp))⟩

theorem RunSt.queued (h : RunSt p w0 w xs low is why vs fr flags q) {flags' : List Bool} {q' : List Int} (ho : Off [p.W, p.C] w w') (hq : QSt w' p.gw p.W p.gt p.C p.n flags' q') :
    RunSt p w0 w' xs low is why vs fr flags' q' := by
  obtain ⟨_, a1, a2, a3, a4⟩ := Place.ok.off h.ok
  have hB : ∀ s ∈ [p.W, p.C], p.B ≤ s ∧ s < p.base := fun s hs => h.ok.lt s (by simp only [List.mem_cons, List.not_mem_nil, or_false] at hs ⊢; rcases hs with e | e <;> simp [e])
  exact ⟨h.ok, cell_off ho h.s0 a1, cell_off ho h.s2 a1, cell_off ho h.s3 a1, cell_off ho h.s4 a1, Nat.le_trans h.size ho.size, h.xsM.below (ho.below (fun s hs => (hB s hs).1) (Nat.le_trans h.ok.B h.size)), h.lowl, h.rI.off ho a3, h.rY.off ho a4, h.vl, h.frm.off ho a2 (fun s hs => (hB s hs).2), hq, h.inv, h.over, h.off.trans (ho.mono (by simp))⟩

theorem raise_run (h : RunSt p w0 w xs low is why vs fr flags q) {i : Nat} {x : IneqD} (hi : xs[i]? = some x) (b : Bool) (hb : raiseB is x = b) :
    Calls Try.prog 65 #[.pointer (some ⟨p.g, 0, none⟩), .int .i64 i] w fun e w' => e = .returned (.bool b) ∧ ∃ is' why', RunSt p w0 w' xs low is' why' vs fr flags q ∧ (is' = if b = true then is.set x.r.toNat (leftL is x) else is) ∧ Off [p.I, p.Y] w w' := by
  have hx := h.over x (List.mem_of_getElem? hi)
  have hg : p.g < w.heap.size := h.lt (by simp)
  have hxs : IneqsV w w.heap.size p.Al p.nl p.cl xs := h.xsM.more (Nat.le_trans h.ok.B h.size)
  cases b with
  | false =>
    refine (raise_no p.g p.Al p.nl p.cl xs p.I p.n p.ci is i x w h.s0 h.s2 hxs (h.rI.rd h.il h.ok.ci h.ok.ci2) hg hi hx.lv hx.r hb).mono ?_
    rintro e w' ⟨rfl, hbel⟩
    exact ⟨rfl, is, why, h.below hbel, rfl, Off.of_below hbel⟩
  | true =>
    have hr0 := ((raiseB_iff _ _).1 hb).1
    obtain ⟨⟨a1, _, _, _, _, _, a7⟩, _⟩ := Place.ok.off h.ok
    have hraised := @RunSt.raised p w0 w
    obtain ⟨lv, lc, c, r⟩ := x
    dsimp only at hr0
    obtain ⟨k, rfl⟩ : ∃ k : Nat, r = (k : Int) := ⟨r.toNat, (Int.toNat_of_nonneg hr0).symm⟩
    refine (raise_yes p.g p.Al p.nl p.cl xs p.I p.Y p.n p.ci p.cy is why i k lv lc c w h.s0 h.s2 h.s3 hxs h.rI h.rY h.il (h.inv.wl.trans h.lowl) h.ok.ci h.ok.ci2 a7 (fun e => a1 (by simp [e])) (fun e => a1 (by simp [e])) hg hi hx.lv (by have := hx.r; dsimp only at this; omega) hb).mono ?_
    rintro e w' ⟨rfl, hI, hY, ho⟩
    exact ⟨rfl, _, _, hraised h hi hb ho hI hY, rfl, ho⟩
end

end Go.Proofs.Ythabkpkgocafoaa

/- The solver's queue: what put does to the whole state. -/
namespace Go.Proofs.Ythabkpkgocafoaa
set_option linter.unusedVariables false
set_option linter.unusedSimpArgs false
open Go.RowKit Go.Conc

theorem nodup_len : ∀ (l1 l2 : List Int), l1.Nodup → (∀ z ∈ l1, z ∈ l2) → l1.length ≤ l2.length
  | [], _, _, _ => Nat.zero_le _
  | a :: t, l2, hn, hs => by
    have h1 : a ∈ l2 := hs a List.mem_cons_self
    obtain ⟨ha, ht⟩ := List.nodup_cons.1 hn
    have h2 := nodup_len t (l2.erase a) ht (fun z hz => (List.mem_erase_of_ne (fun e : z = a => ha (by rw [← e]; exact hz))).2 (hs z (List.mem_cons_of_mem _ hz)))
    rw [List.length_erase_of_mem h1] at h2
    have := List.length_pos_of_mem h1
    simp only [List.length_cons]
    omega

/-- the queue and its flags -/
structure QInv (n : Nat) (flags : List Bool) (q : List Int) : Prop where
  len : flags.length = n
  nd : q.Nodup
  iff : ∀ u, u < n → (flags.getD u false = true ↔ (u : Int) ∈ q)
  rng : ∀ z ∈ q, ∃ u : Nat, u < n ∧ z = (u : Int)

theorem QInv.room {n : Nat} {flags : List Bool} {q : List Int} (h : QInv n flags q) {v : Nat} (hv : v < n) (hf : flags.getD v false = false) : q.length < n := by
  have h1 : ((v : Int) :: q).Nodup := List.nodup_cons.2 ⟨fun hm => (by have := (h.iff v hv).2 hm; rw [hf] at this; cases this), h.nd⟩
  have h2 := nodup_len _ ((List.range n).map (fun u : Nat => (u : Int))) h1 (fun z hz => by
    rcases List.mem_cons.1 hz with he | hz
    · rw [he]; exact List.mem_map.2 ⟨v, List.mem_range.2 hv, rfl⟩
    · obtain ⟨u, hu, rfl⟩ := h.rng z hz
      exact List.mem_map.2 ⟨u, List.mem_range.2 hu, rfl⟩)
  simp at h2
  omega

theorem getDb_set (l : List Bool) (i j : Nat) (a : Bool) (hi : i < l.length) : (l.set i a).getD j false = if i = j then a else l.getD j false := by
  simp only [List.getD, List.getElem?_set]
  by_cases e : i = j
  · subst e; simp [hi]
  · simp [e]

theorem QInv.put {n : Nat} {flags : List Bool} {q : List Int} (h : QInv n flags q) {v : Nat} (hv : v < n) (hf : flags.getD v false = false) : QInv n (flags.set v true) (q ++ [(v : Int)]) := by
  have hvl : v < flags.length := by rw [h.len]; exact hv
  refine ⟨by simpa using h.len, ?_, fun u hu => ?_, fun z hz => ?_⟩
  · refine List.nodup_append.2 ⟨h.nd, by simp, fun a ha b hb => ?_⟩
    simp only [List.mem_singleton] at hb
    subst hb
    intro e
    subst e
    have := (h.iff v hv).2 ha
    rw [hf] at this
    cases this
  · rw [getDb_set _ _ _ _ hvl]
    by_cases e : v = u
    · subst e; simp
    · rw [if_neg e, h.iff u hu, List.mem_append]
      constructor
      · exact fun q => Or.inl q
      · rintro (q | q)
        · exact q
        · simp only [List.mem_singleton] at q; omega
  · rcases List.mem_append.1 hz with q | q
    · exact h.rng z q
    · simp only [List.mem_singleton] at q
      exact ⟨v, hv, q⟩

/-- the first is taken out -/
theorem QInv.take {n : Nat} {flags : List Bool} {q : List Int} {z : Int} (h : QInv n flags (z :: q)) : ∃ v : Nat, v < n ∧ z = (v : Int) ∧ QInv n (flags.set v false) q := by
  obtain ⟨v, hv, rfl⟩ := h.rng z List.mem_cons_self
  have hvl : v < flags.length := by rw [h.len]; exact hv
  obtain ⟨hz, hn⟩ := List.nodup_cons.1 h.nd
  refine ⟨v, hv, rfl, by simpa using h.len, hn, fun u hu => ?_, fun z hz => h.rng z (List.mem_cons_of_mem _ hz)⟩
  rw [getDb_set _ _ _ _ hvl]
  by_cases e : v = u
  · subst e
    rw [if_pos rfl]
    exact ⟨fun q => Bool.noConfusion q, fun q => absurd q hz⟩
  · rw [if_neg e, h.iff u hu, List.mem_cons]
    constructor
    · rintro (q | q)
      · omega
      · exact q
    · exact fun q => Or.inr q

section
variable {p : Place} {w0 w w' : World} {xs : List IneqD} {low is why : List Int} {vs : List Value} {fr : Nat → List Int} {flags : List Bool} {q : List Int}
theorem put_run (h : RunSt p w0 w xs low is why vs fr flags q) (hq : QInv p.n flags q) {v : Nat} (hv : v < p.n) :
    Calls Try.prog 64 #[.int .i64 v, .pointer (some ⟨p.gw, 0, none⟩), .pointer (some ⟨p.gt, 0, none⟩)] w fun e w' => e = .returned (.tuple #[]) ∧ ∃ flags' q', RunSt p w0 w' xs low is why vs fr flags' q' ∧ QInv p.n flags' q' ∧ (∀ u, flags'.getD u false = true ↔ flags.getD u false = true ∨ u = v) ∧ q'.length ≤ q.length + 1 := by
  cases hf : flags.getD v false with
  | true =>
    refine (putQ_yes v p.gw p.W p.gt p.C p.n flags q w h.qs hv hf h.ok.n20).mono ?_
    rintro e w' ⟨rfl, rfl⟩
    refine ⟨rfl, flags, q, h, hq, fun u => ⟨Or.inl, ?_⟩, Nat.le_succ _⟩
    rintro (e | rfl)
    · exact e
    · exact hf
  | false =>
    refine (putQ_no v p.gw p.W p.gt p.C p.n flags q w h.qs hv hf h.ok.n20 (hq.room hv hf)).mono ?_
    rintro e w' ⟨rfl, hs, ho⟩
    refine ⟨rfl, _, _, h.queued ho hs, hq.put hv hf, fun u => ?_, by simp⟩
    rw [getDb_set _ _ _ _ (by rw [hq.len]; exact hv)]
    by_cases e : v = u
    · subst e; simp
    · rw [if_neg e]
      constructor
      · exact Or.inl
      · rintro (q | q)
        · exact q
        · exact absurd q.symm e
end

end Go.Proofs.Ythabkpkgocafoaa

/- The making of the queue and its flags. -/
namespace Go.Proofs.Ythabkpkgocafoaa
set_option linter.unusedVariables false
set_option linter.unusedSimpArgs false
open Go.RowKit Go.Conc

def falses (N : Nat) : Array Value := ((List.replicate N false).map Value.bool).toArray
theorem boolInfo : (Try.prog.info? 4).map (fun i => (i.zero, i.size, i.bytes)) = some (some (.bool false), 1, 1) := by kernel_rfl
theorem intInfo : (Try.prog.info? 3).map (fun i => (i.zero, i.size, i.bytes)) = some (some (.int .i64 0), 1, 8) := by kernel_rfl
theorem make_bools (N : Nat) (hN : N ≤ 1048576) (w : World) : (Instr.makeSlice 104 (.int .i64 N) (.int .i64 N)).run Try.prog w = .ok (.slice (some ⟨w.heap.size, 0, none⟩) N N) (w.alloc (.cells (falses N) 4)) := by
  obtain ⟨i0, hi0, hi1, hi2, hi3⟩ := info_parts boolInfo
  have h := run_makeSlice (P := Try.prog) w 104 4 i0 _ Try.underlying104 hi0 hi1 .i64 .i64 N N (by omega) (by omega) (by rw [hi2]; simp; omega) (by rw [hi3]; simp; omega) (by omega)
  rw [h]
  have : madeCells (Value.bool false).cells ((N : Int).toNat * i0.size) = falses N := by
    rw [hi2]
    unfold madeCells falses
    apply Array.ext
    · simp
    · intro i h1 h2
      simp [Value.cells, Nat.mod_one]
  rw [this]
  simp
theorem make_queue (N : Nat) (hN : N ≤ 1048576) (w : World) : (Instr.makeChan 103 (.int .i64 N)).run Try.prog w = .ok (.chan (some w.heap.size)) (w.alloc (.chan N #[] false 0 0 false)) := by
  obtain ⟨i0, hi0, hi1, hi2, hi3⟩ := info_parts intInfo
  exact run_makeChan (P := Try.prog) Try.underlying103 hi0 .i64 N (by omega) (by rw [hi3]; simp; omega)

/-- the state ahead of the loops -/
theorem runSt_start {g I Y F B n nl cl ci cy cf : Nat} {Al : Option Addr} {lowV : Value} {xs : List IneqD} {low : List Int} {w w2 : World}
    (hs : Blk w g 76 #[.slice Al nl cl, lowV, .slice (some ⟨I, 0, none⟩) n ci, .slice (some ⟨Y, 0, none⟩) n cy, .slice (some ⟨F, 0, none⟩) n cf]) (hx : IneqsV w B Al nl cl xs) (hB : B ≤ w.heap.size) (hnd : [g, F, I, Y].Nodup) (hlt : ∀ b ∈ [g, F, I, Y], B ≤ b)
    (hn : n ≤ 1048576) (hci : n ≤ ci) (hci2 : ci ≤ maxLen) (hlow : low.length = n) (hlow3 : ∀ v, v < low.length → low.getD v 0 ≤ 3)
    (hI : RowC w I 27 .u8 low) (hY : RowC w Y 3 .i64 (List.replicate n (-1))) (hF : Blk w F 23 (List.replicate n (Value.slice none 0 0)).toArray) (hover : ∀ x ∈ xs, OverL n x)
    (hb : Below w.heap.size w w2) (hz : w2.heap.size = w.heap.size + 4) (hq : QSt w2 (w.heap.size + 3) (w.heap.size + 2) (w.heap.size + 1) w.heap.size n (List.replicate n false) []) :
    RunSt ⟨g, F, I, Y, w.heap.size + 3, w.heap.size + 2, w.heap.size + 1, w.heap.size, B, w.heap.size + 4, n, Al, nl, cl, lowV, ci, cy, cf⟩ w w2 xs low low (List.replicate n (-1)) (List.replicate n (Value.slice none 0 0)) (fun _ => []) (List.replicate n false) [] := by
  have l1 := hs.lt
  have l2 := hF.lt
  have l3 := hI.lt
  have l4 := hY.lt
  have b1 := hlt g (by simp)
  have b2 := hlt F (by simp)
  have b3 := hlt I (by simp)
  have b4 := hlt Y (by simp)
  have hs2 := hs.below hb l1
  refine ⟨⟨?_, ?_, hn, hci, hci2, by show B ≤ w.heap.size + 4; omega⟩, hs2.cell 0, hs2.cell 2, hs2.cell 3, hs2.cell 4, by show w.heap.size + 4 ≤ _; omega, hx.below (hb.mono hB), hlow, hI.below hb l3, hY.below hb l4, by simp, ⟨hF.below hb l2, by show F < w.heap.size + 4; omega, fun j hj => ?_, fun i j b hi hj ei ej => ?_⟩, hq, ?_, hover, Off.of_below hb⟩
  · simp only [List.nodup_cons, List.mem_cons, List.not_mem_nil, or_false, not_or, List.nodup_nil, and_true, not_false_eq_true] at hnd ⊢
    omega
  · intro b hbm
    simp only [List.mem_cons, List.not_mem_nil, or_false] at hbm
    show B ≤ b ∧ b < w.heap.size + 4
    omega
  · refine ⟨by simp, Or.inl ⟨by simp, rfl⟩⟩
  · simp only [List.getElem_replicate] at ei
    cases ei
  · have := InvL.start xs low hlow3
    rw [hlow] at this
    exact this

end Go.Proofs.Ythabkpkgocafoaa

/- Plain: what a raise does to other inequalities. -/
namespace Go.Proofs.Ythabkpkgocafoaa
set_option linter.unusedVariables false
set_option linter.unusedSimpArgs false

/-- whose left side is another's stays kept -/
theorem keepsL_other {is : List Int} {r : Nat} {L : Int} {y : IneqD} (h : keepsL is y) (hne : y.lc = 0 → y.lv.toNat ≠ r) (hL : is.getD r 0 ≤ L) (hr : r < is.length) : keepsL (is.set r L) y := by
  intro hy
  have h1 := h hy
  rw [leftL_set y hr, if_neg (fun e => hne e.1 e.2.symm), getD_set _ _ _ _ _ hr]
  split
  · rename_i e; subst e; omega
  · exact h1
/-- the raised one is kept -/
theorem keepsL_self {is : List Int} {x : IneqD} (hb : raiseB is x = true) (hr : x.r.toNat < is.length) : keepsL (is.set x.r.toNat (leftL is x)) x := by
  intro hx
  obtain ⟨h0, h1⟩ := (raiseB_iff _ _).1 hb
  have hne : ¬ (x.lc = 0 ∧ x.r.toNat = x.lv.toNat) := by
    rintro ⟨e0, e1⟩
    have : leftL is x = is.getD x.r.toNat 0 := by unfold leftL; rw [if_pos e0, e1]
    omega
  rw [leftL_set x hr, if_neg hne, getD_set _ _ _ _ _ hr, if_pos rfl]
  omega

/-- loop 1: what is done behind the first j inequalities -/
structure FirstL (xs : List IneqD) (is : List Int) (fr : Nat → List Int) (j : Nat) : Prop where
  consts : ∀ i, i < j → ∀ x, xs[i]? = some x → x.lc ≠ 0 → keepsL is x
  froms : ∀ i, i < j → ∀ x, xs[i]? = some x → x.lc = 0 → (i : Int) ∈ fr x.lv.toNat
  mem : ∀ v, ∀ z ∈ fr v, ∃ (i : Nat) (x : IneqD), z = (i : Int) ∧ xs[i]? = some x ∧ x.lc = 0 ∧ x.lv.toNat = v
theorem FirstL.start (xs : List IneqD) (is : List Int) : FirstL xs is (fun _ => []) 0 :=
  ⟨fun i h => absurd h (Nat.not_lt_zero _), fun i h => absurd h (Nat.not_lt_zero _), fun v z hz => by cases hz⟩
theorem FirstL.var {xs : List IneqD} {is : List Int} {fr : Nat → List Int} {j : Nat} {x : IneqD} (h : FirstL xs is fr j) (hx : xs[j]? = some x) (h0 : x.lc = 0) : FirstL xs is (fun k => if k = x.lv.toNat then fr x.lv.toNat ++ [(j : Int)] else fr k) (j + 1) := by
  refine ⟨fun i hi y hy hc => ?_, fun i hi y hy hc => ?_, fun v z hz => ?_⟩
  · by_cases e : i = j
    · subst e; rw [hx] at hy; cases hy; exact absurd h0 hc
    · exact h.consts i (by omega) y hy hc
  · by_cases e : i = j
    · subst e; rw [hx] at hy; cases hy; simp
    · have := h.froms i (by omega) y hy hc
      split
      · rename_i q; rw [← q]; exact List.mem_append.2 (Or.inl this)
      · exact this
  · split at hz
    · rename_i q
      rcases List.mem_append.1 hz with hz | hz
      · rw [q]; exact h.mem _ z hz
      · simp only [List.mem_singleton] at hz
        exact ⟨j, x, hz, hx, h0, q.symm⟩
    · exact h.mem v z hz
/-- a const inequality, raised or not -/
theorem FirstL.const {xs : List IneqD} {is : List Int} {fr : Nat → List Int} {j : Nat} {x : IneqD} (h : FirstL xs is fr j) (hx : xs[j]? = some x) (h0 : x.lc ≠ 0) (hr : x.r < is.length) : FirstL xs (if raiseB is x = true then is.set x.r.toNat (leftL is x) else is) fr (j + 1) := by
  refine ⟨fun i hi y hy hc => ?_, fun i hi y hy hc => ?_, h.mem⟩
  · cases hb : raiseB is x with
    | false =>
      simp only [Bool.false_eq_true, if_false]
      by_cases e : i = j
      · subst e; rw [hx] at hy; cases hy; exact raiseB_not _ _ hb
      · exact h.consts i (by omega) y hy hc
    | true =>
      simp only [if_true]
      obtain ⟨q0, q1⟩ := (raiseB_iff _ _).1 hb
      have hrn : x.r.toNat < is.length := by omega
      by_cases e : i = j
      · subst e; rw [hx] at hy; cases hy; exact keepsL_self hb hrn
      · exact keepsL_other (h.consts i (by omega) y hy hc) (fun z => absurd z hc) (by omega) hrn
  · by_cases e : i = j
    · subst e; rw [hx] at hy; cases hy; exact absurd hc h0
    · exact h.froms i (by omega) y hy hc

/-- loop 3: what is not kept waits, or is still to come in this round -/
structure WaitL (xs : List IneqD) (is : List Int) (flags : List Bool) (v : Nat) (rest : List Int) : Prop where
  consts : ∀ x ∈ xs, x.lc ≠ 0 → keepsL is x
  vars : ∀ (i : Nat) x, xs[i]? = some x → x.lc = 0 → keepsL is x ∨ flags.getD x.lv.toNat false = true ∨ (x.lv.toNat = v ∧ (i : Int) ∈ rest)
theorem WaitL.round {xs : List IneqD} {is is0 : List Int} {flags flags' : List Bool} {v0 v : Nat} {fr : Nat → List Int} (h : WaitL xs is flags v0 []) (hf : ∀ u, u ≠ v → flags'.getD u false = flags.getD u false) (hfr : FirstL xs is0 fr xs.length) : WaitL xs is flags' v (fr v) := by
  refine ⟨h.consts, fun i x hi h0 => ?_⟩
  rcases h.vars i x hi h0 with a | a | ⟨_, a⟩
  · exact Or.inl a
  · by_cases e : x.lv.toNat = v
    · refine Or.inr (Or.inr ⟨e, ?_⟩)
      have := hfr.froms i (List.getElem?_eq_some_iff.1 hi).1 x hi h0
      rwa [e] at this
    · exact Or.inr (Or.inl (by rw [hf _ e]; exact a))
  · cases a
theorem WaitL.skip {xs : List IneqD} {is : List Int} {flags : List Bool} {v j : Nat} {t : List Int} {x : IneqD} (h : WaitL xs is flags v ((j : Int) :: t)) (hx : xs[j]? = some x) (hb : raiseB is x = false) : WaitL xs is flags v t := by
  refine ⟨h.consts, fun i y hi h0 => ?_⟩
  rcases h.vars i y hi h0 with a | a | ⟨a, b⟩
  · exact Or.inl a
  · exact Or.inr (Or.inl a)
  · rcases List.mem_cons.1 b with e | e
    · have : i = j := by omega
      subst this
      rw [hx] at hi; cases hi
      exact Or.inl (raiseB_not _ _ hb)
    · exact Or.inr (Or.inr ⟨a, e⟩)
theorem WaitL.raised {xs : List IneqD} {is : List Int} {flags flags' : List Bool} {v j : Nat} {t : List Int} {x : IneqD} (h : WaitL xs is flags v ((j : Int) :: t)) (hx : xs[j]? = some x) (hb : raiseB is x = true) (hr : x.r < is.length) (hf : ∀ u, flags'.getD u false = true ↔ flags.getD u false = true ∨ u = x.r.toNat) : WaitL xs (is.set x.r.toNat (leftL is x)) flags' v t := by
  obtain ⟨q0, q1⟩ := (raiseB_iff _ _).1 hb
  have hrn : x.r.toNat < is.length := by omega
  refine ⟨fun y hy hc => keepsL_other (h.consts y hy hc) (fun z => absurd z hc) (by omega) hrn, fun i y hi h0 => ?_⟩
  by_cases e : y.lv.toNat = x.r.toNat
  · exact Or.inr (Or.inl ((hf _).2 (Or.inr e)))
  · rcases h.vars i y hi h0 with a | a | ⟨a, b⟩
    · exact Or.inl (keepsL_other a (fun _ => e) (by omega) hrn)
    · exact Or.inr (Or.inl ((hf _).2 (Or.inl a)))
    · rcases List.mem_cons.1 b with e' | e'
      · have : i = j := by omega
        subst this
        rw [hx] at hi; cases hi
        exact Or.inl (keepsL_self hb hrn)
      · exact Or.inr (Or.inr ⟨a, e'⟩)

/-- how far the variables can still be raised -/
def slackL (is : List Int) : Nat := (is.map fun x => (3 - x).toNat).sum
theorem slackL_set : ∀ (is : List Int) (k : Nat) (L : Int), k < is.length → is.getD k 0 < L → L ≤ 3 → slackL (is.set k L) + 1 ≤ slackL is
  | [], k, L, h, _, _ => absurd h (by simp)
  | x :: t, 0, L, h, h1, h2 => by
    simp only [List.getD_cons_zero] at h1
    simp only [slackL, List.set_cons_zero, List.map_cons, List.sum_cons]
    omega
  | x :: t, k + 1, L, h, h1, h2 => by
    have := slackL_set t k L (by simpa using h) (by simpa using h1) h2
    simp only [slackL, List.set_cons_succ, List.map_cons, List.sum_cons] at this ⊢
    omega
theorem slackL_raise {is : List Int} {x : IneqD} {n : Nat} (hx : OverL n x) (hl : is.length = n) (ht : ∀ v, v < n → is.getD v 0 ≤ 3) (hb : raiseB is x = true) : slackL (is.set x.r.toNat (leftL is x)) + 1 ≤ slackL is := by
  obtain ⟨q0, q1⟩ := (raiseB_iff _ _).1 hb
  have := hx.r
  exact slackL_set is _ _ (by omega) (by omega) (leftL_top hx ht)
theorem WaitL.done {xs : List IneqD} {is : List Int} {flags : List Bool} {v : Nat} (h : WaitL xs is flags v []) (hf : ∀ u, flags.getD u false = false) : ∀ x ∈ xs, keepsL is x := by
  intro x hx
  by_cases h0 : x.lc = 0
  · obtain ⟨i, hi⟩ := List.getElem?_of_mem hx
    rcases h.vars i x hi h0 with a | a | ⟨_, a⟩
    · exact a
    · rw [hf] at a; cases a
    · cases a
  · exact h.consts x hx h0

end Go.Proofs.Ythabkpkgocafoaa

/- The queue: what is taken out of it. -/
namespace Go.Proofs.Ythabkpkgocafoaa
set_option linter.unusedVariables false
set_option linter.unusedSimpArgs false
open Go.RowKit Go.Conc

theorem QSt.recv {w : World} {gw W gt C n s r : Nat} {flags : List Bool} {z : Int} {q : List Int} (h : QSt w gw W gt C n flags (z :: q)) (hc : w.heap[C]? = some (.chan n ((z :: q).map (Value.int .i64)).toArray false s r false)) :
    QSt (w.setChan C n (((z :: q).map (Value.int .i64)).toArray.extract 1 ((z :: q).map (Value.int .i64)).toArray.size) false s (r + 1) false) gw W gt C n flags q := by
  obtain ⟨n1, n2, n3, n4, n5⟩ := h.ne
  obtain ⟨hl, b1, b2, b3, _⟩ := h
  have hCl : C < w.heap.size := (Array.getElem?_eq_some_iff.1 hc).1
  refine ⟨hl, b1.chan _ _ _ _ _ n1, b2.chan _ _ _ _ _ n2, b3.chan _ _ _ _ _ n3, s, r + 1, ?_⟩
  rw [heap_setChan _ _ _ _ _ _ _ _ hCl]
  simp
  exact List.take_of_length_le (by simp)
theorem QSt.mark {w : World} {gw W gt C n : Nat} {flags : List Bool} {q : List Int} (h : QSt w gw W gt C n flags q) (v : Nat) (b : Bool) : QSt (w.setCell ⟨W, v, none⟩ (.bool b)) gw W gt C n (flags.set v b) q := by
  obtain ⟨n1, n2, n3, n4, n5⟩ := h.ne
  obtain ⟨hl, b1, b2, b3, s, r, hc⟩ := h
  refine ⟨by simp [hl], b1.other (g' := W) (Ne.symm n5) v _, ?_, b3.other (g' := W) (Ne.symm n4) v _, s, r, (Below.heap_setCell _ _ _ _ (Ne.symm n2)).trans hc⟩
  have := b2.set_ v (.bool b)
  rw [List.map_set]
  simpa using this
theorem WaitL.nil {xs : List IneqD} {is : List Int} {flags : List Bool} {v : Nat} (v' : Nat) (h : WaitL xs is flags v []) : WaitL xs is flags v' [] :=
  ⟨h.consts, fun i x hi h0 => (h.vars i x hi h0).imp_right fun q => q.imp_right fun r => absurd r.2 (by simp)⟩

section
variable {p : Place} {w0 w : World} {xs : List IneqD} {low is why : List Int} {vs : List Value} {fr : Nat → List Int} {flags : List Bool} {z : Int} {q : List Int}
theorem RunSt.recv (h : RunSt p w0 w xs low is why vs fr flags (z :: q)) {s r : Nat} (hc : w.heap[p.C]? = some (.chan p.n ((z :: q).map (Value.int .i64)).toArray false s r false)) :
    RunSt p w0 (w.setChan p.C p.n (((z :: q).map (Value.int .i64)).toArray.extract 1 ((z :: q).map (Value.int .i64)).toArray.size) false s (r + 1) false) xs low is why vs fr flags q :=
  h.queued ((Off.refl _ _).chan (by simp) _ _ _ _ _) (h.qs.recv hc)
theorem RunSt.mark (h : RunSt p w0 w xs low is why vs fr flags q) (v : Nat) (b : Bool) : RunSt p w0 (w.setCell ⟨p.W, v, none⟩ (.bool b)) xs low is why vs fr (flags.set v b) q :=
  h.queued ((Off.refl _ _).set (by simp) _ _) (h.qs.mark v b)

/-- a variable's list has grown -/
theorem RunSt.added {w' : World} (h : RunSt p w0 w xs low is why vs fr flags q) (hz : w0.heap.size ≤ p.base) {j : Nat} (hj : j < vs.length) {v' : Value} {u : Int} (ho : w'.ownsRow p.base 3 1 v' ((fr j).length + 1) ((fr j).map (Value.int .i64) ++ [.int .i64 u])) (hg : w.grownBy w' vs[j].ownBlock) (hn : v'.ownBlock = vs[j].ownBlock ∨ v'.ownBlock = some w.heap.size) :
    RunSt p w0 (w'.setCell ⟨p.F, j, none⟩ v') xs low is why (vs.set j v') (fun k => if k = j then fr j ++ [u] else fr k) flags q := by
  have hoff : Off (p.F :: vs[j].ownBlock.toList) w (w'.setCell ⟨p.F, j, none⟩ v') :=
    Off.set ⟨hg.os, hg.tape, hg.output, hg.size, fun k hk hne => hg.block k hk (fun e => hne (by rw [← e]; simp))⟩ (by simp) _ _
  have hown : ∀ b ∈ vs[j].ownBlock.toList, p.base ≤ b := fun b hb => (ownsRow_lt (h.frm.own j hj) (by simpa using hb)).1
  have hnd := h.ok.nd
  simp only [List.nodup_cons, List.mem_cons, List.not_mem_nil, or_false, not_or] at hnd
  have hnot : ∀ b, b ∈ [p.g, p.I, p.Y, p.gw, p.W, p.gt, p.C] → b ∉ (p.F :: vs[j].ownBlock.toList) := by
    intro b hb hm
    obtain ⟨⟨a1, _⟩, ⟨b1, b2, b3, b4, b5, b6⟩, _⟩ := hnd
    have hlt := (h.ok.lt b (by simp only [List.mem_cons, List.not_mem_nil, or_false] at hb ⊢; rcases hb with e | e | e | e | e | e | e <;> simp [e])).2
    rcases List.mem_cons.1 hm with e | e
    · rw [e] at hb
      simp only [List.mem_cons, List.not_mem_nil, or_false] at hb
      rcases hb with e | e | e | e | e | e | e
      · exact a1 e.symm
      · exact b1 e
      · exact b2 e
      · exact b3 e
      · exact b4 e
      · exact b5 e
      · exact b6 e
    · have := hown b e; omega
  have hB : ∀ s ∈ (p.F :: vs[j].ownBlock.toList), p.B ≤ s := fun s hs => by
    rcases List.mem_cons.1 hs with e | e
    · rw [e]; exact (h.ok.lt p.F (by simp)).1
    · have := hown s e; have := h.ok.B; omega
  refine ⟨h.ok, cell_off hoff h.s0 (hnot _ (by simp)), cell_off hoff h.s2 (hnot _ (by simp)), cell_off hoff h.s3 (hnot _ (by simp)), cell_off hoff h.s4 (hnot _ (by simp)), Nat.le_trans h.size hoff.size, h.xsM.below (hoff.below hB (Nat.le_trans h.ok.B h.size)), h.lowl, h.rI.off hoff (hnot _ (by simp)), h.rY.off hoff (hnot _ (by simp)), by simpa using h.vl, h.frm.add hj ho hg hn, h.qs.off hoff (hnot _ (by simp)) (hnot _ (by simp)) (hnot _ (by simp)) (hnot _ (by simp)), h.inv, h.over, ?_⟩
  have a := h.off
  refine ⟨hoff.os.trans a.os, hoff.tape.trans a.tape, hoff.output.trans a.output, Nat.le_trans a.size hoff.size, fun k hk hne => (hoff.block k (Nat.lt_of_lt_of_le hk a.size) fun hm => ?_).trans (a.block k hk hne)⟩
  rcases List.mem_cons.1 hm with e | e
  · exact hne (by simp [e])
  · have := hown k e; omega
end

end Go.Proofs.Ythabkpkgocafoaa

