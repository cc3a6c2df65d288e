/- The queue: what is taken out of it. -/
import Derived.Test.YthabkpkgocafoaaLeastO
import Derived.Test.YthabkpkgocafoaaLeastW
namespace Go.Proofs.Ythabkpkgocafoaa
set_option linter.unusedVariables false
set_option linter.unusedSimpArgs false
open Go.RowKit Go.Conc

theorem QSt.recv {w : World} {gw W gt C n s r : Nat} {flags : List Bool} {z : Int} {q : List Int} (h : QSt w gw W gt C n flags (z :: q)) (hc : w.heap[C]? = some (.chan n ((z :: q).map (Value.int .i64)).toArray false s r false)) :
    QSt (w.setChan C n (((z :: q).map (Value.int .i64)).toArray.extract 1 ((z :: q).map (Value.int .i64)).toArray.size) false s (r + 1) false) gw W gt C n flags q := by
  obtain ⟨n1, n2, n3, n4, n5⟩ := h.ne
  obtain ⟨hl, b1, b2, b3, _⟩ := h
  have hCl : C < w.heap.size := (Array.getElem?_eq_some_iff.1 hc).1
  refine ⟨hl, b1.chan _ _ _ _ _ n1, b2.chan _ _ _ _ _ n2, b3.chan _ _ _ _ _ n3, s, r + 1, ?_⟩
  rw [heap_setChan _ _ _ _ _ _ _ _ hCl]
  simp
  exact List.take_of_length_le (by simp)
theorem QSt.mark {w : World} {gw W gt C n : Nat} {flags : List Bool} {q : List Int} (h : QSt w gw W gt C n flags q) (v : Nat) (b : Bool) : QSt (w.setCell ⟨W, v, none⟩ (.bool b)) gw W gt C n (flags.set v b) q := by
  obtain ⟨n1, n2, n3, n4, n5⟩ := h.ne
  obtain ⟨hl, b1, b2, b3, s, r, hc⟩ := h
  refine ⟨by simp [hl], b1.other (g' := W) (Ne.symm n5) v _, ?_, b3.other (g' := W) (Ne.symm n4) v _, s, r, (Below.heap_setCell _ _ _ _ (Ne.symm n2)).trans hc⟩
  have := b2.set_ v (.bool b)
  rw [List.map_set]
  simpa using this
theorem WaitL.nil {xs : List IneqD} {is : List Int} {flags : List Bool} {v : Nat} (v' : Nat) (h : WaitL xs is flags v []) : WaitL xs is flags v' [] :=
  ⟨h.consts, fun i x hi h0 => (h.vars i x hi h0).imp_right fun q => q.imp_right fun r => absurd r.2 (by simp)⟩

section
variable {p : Place} {w0 w : World} {xs : List IneqD} {low is why : List Int} {vs : List Value} {fr : Nat → List Int} {flags : List Bool} {z : Int} {q : List Int}
theorem RunSt.recv (h : RunSt p w0 w xs low is why vs fr flags (z :: q)) {s r : Nat} (hc : w.heap[p.C]? = some (.chan p.n ((z :: q).map (Value.int .i64)).toArray false s r false)) :
    RunSt p w0 (w.setChan p.C p.n (((z :: q).map (Value.int .i64)).toArray.extract 1 ((z :: q).map (Value.int .i64)).toArray.size) false s (r + 1) false) xs low is why vs fr flags q :=
  h.queued ((Off.refl _ _).chan (by simp) _ _ _ _ _) (h.qs.recv hc)
theorem RunSt.mark (h : RunSt p w0 w xs low is why vs fr flags q) (v : Nat) (b : Bool) : RunSt p w0 (w.setCell ⟨p.W, v, none⟩ (.bool b)) xs low is why vs fr (flags.set v b) q :=
  h.queued ((Off.refl _ _).set (by simp) _ _) (h.qs.mark v b)

/-- a variable's list has grown -/
theorem RunSt.added {w' : World} (h : RunSt p w0 w xs low is why vs fr flags q) (hz : w0.heap.size ≤ p.base) {j : Nat} (hj : j < vs.length) {v' : Value} {u : Int} (ho : w'.ownsRow p.base 3 1 v' ((fr j).length + 1) ((fr j).map (Value.int .i64) ++ [.int .i64 u])) (hg : w.grownBy w' vs[j].ownBlock) (hn : v'.ownBlock = vs[j].ownBlock ∨ v'.ownBlock = some w.heap.size) :
    RunSt p w0 (w'.setCell ⟨p.F, j, none⟩ v') xs low is why (vs.set j v') (fun k => if k = j then fr j ++ [u] else fr k) flags q := by
  have hoff : Off (p.F :: vs[j].ownBlock.toList) w (w'.setCell ⟨p.F, j, none⟩ v') :=
    Off.set ⟨hg.os, hg.tape, hg.output, hg.size, fun k hk hne => hg.block k hk (fun e => hne (by rw [← e]; simp))⟩ (by simp) _ _
  have hown : ∀ b ∈ vs[j].ownBlock.toList, p.base ≤ b := fun b hb => (ownsRow_lt (h.frm.own j hj) (by simpa using hb)).1
  have hnd := h.ok.nd
  simp only [List.nodup_cons, List.mem_cons, List.not_mem_nil, or_false, not_or] at hnd
  have hnot : ∀ b, b ∈ [p.g, p.I, p.Y, p.gw, p.W, p.gt, p.C] → b ∉ (p.F :: vs[j].ownBlock.toList) := by
    intro b hb hm
    obtain ⟨⟨a1, _⟩, ⟨b1, b2, b3, b4, b5, b6⟩, _⟩ := hnd
    have hlt := (h.ok.lt b (by simp only [List.mem_cons, List.not_mem_nil, or_false] at hb ⊢; rcases hb with e | e | e | e | e | e | e <;> simp [e])).2
    rcases List.mem_cons.1 hm with e | e
    · rw [e] at hb
      simp only [List.mem_cons, List.not_mem_nil, or_false] at hb
      rcases hb with e | e | e | e | e | e | e
      · exact a1 e.symm
      · exact b1 e
      · exact b2 e
      · exact b3 e
      · exact b4 e
      · exact b5 e
      · exact b6 e
    · have := hown b e; omega
  have hB : ∀ s ∈ (p.F :: vs[j].ownBlock.toList), p.B ≤ s := fun s hs => by
    rcases List.mem_cons.1 hs with e | e
    · rw [e]; exact (h.ok.lt p.F (by simp)).1
    · have := hown s e; have := h.ok.B; omega
  refine ⟨h.ok, cell_off hoff h.s0 (hnot _ (by simp)), cell_off hoff h.s2 (hnot _ (by simp)), cell_off hoff h.s3 (hnot _ (by simp)), cell_off hoff h.s4 (hnot _ (by simp)), Nat.le_trans h.size hoff.size, h.xsM.below (hoff.below hB (Nat.le_trans h.ok.B h.size)), h.lowl, h.rI.off hoff (hnot _ (by simp)), h.rY.off hoff (hnot _ (by simp)), by simpa using h.vl, h.frm.add hj ho hg hn, h.qs.off hoff (hnot _ (by simp)) (hnot _ (by simp)) (hnot _ (by simp)) (hnot _ (by simp)), h.inv, h.over, ?_⟩
  have a := h.off
  refine ⟨hoff.os.trans a.os, hoff.tape.trans a.tape, hoff.output.trans a.output, Nat.le_trans a.size hoff.size, fun k hk hne => (hoff.block k (Nat.lt_of_lt_of_le hk a.size) fun hm => ?_).trans (a.block k hk hne)⟩
  rcases List.mem_cons.1 hm with e | e
  · exact hne (by simp [e])
  · have := hown k e; omega
end

end Go.Proofs.Ythabkpkgocafoaa
