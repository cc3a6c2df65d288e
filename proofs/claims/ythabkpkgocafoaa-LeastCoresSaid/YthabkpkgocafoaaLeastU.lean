/- The making of the queue and its flags. -/
import Derived.Test.YthabkpkgocafoaaLeastO
import Derived.Test.YthabkpkgocafoaaLeastQ
import Derived.Laws.MakeOwn
import Derived.Conc.SmallLaws
namespace Go.Proofs.Ythabkpkgocafoaa
set_option linter.unusedVariables false
set_option linter.unusedSimpArgs false
open Go.RowKit Go.Conc

def falses (N : Nat) : Array Value := ((List.replicate N false).map Value.bool).toArray
theorem boolInfo : (Try.prog.info? 4).map (fun i => (i.zero, i.size, i.bytes)) = some (some (.bool false), 1, 1) := by kernel_rfl
theorem intInfo : (Try.prog.info? 3).map (fun i => (i.zero, i.size, i.bytes)) = some (some (.int .i64 0), 1, 8) := by kernel_rfl
theorem make_bools (N : Nat) (hN : N ≤ 1048576) (w : World) : (Instr.makeSlice 104 (.int .i64 N) (.int .i64 N)).run Try.prog w = .ok (.slice (some ⟨w.heap.size, 0, none⟩) N N) (w.alloc (.cells (falses N) 4)) := by
  obtain ⟨i0, hi0, hi1, hi2, hi3⟩ := info_parts boolInfo
  have h := run_makeSlice (P := Try.prog) w 104 4 i0 _ Try.underlying104 hi0 hi1 .i64 .i64 N N (by omega) (by omega) (by rw [hi2]; simp; omega) (by rw [hi3]; simp; omega) (by omega)
  rw [h]
  have : madeCells (Value.bool false).cells ((N : Int).toNat * i0.size) = falses N := by
    rw [hi2]
    unfold madeCells falses
    apply Array.ext
    · simp
    · intro i h1 h2
      simp [Value.cells, Nat.mod_one]
  rw [this]
  simp
theorem make_queue (N : Nat) (hN : N ≤ 1048576) (w : World) : (Instr.makeChan 103 (.int .i64 N)).run Try.prog w = .ok (.chan (some w.heap.size)) (w.alloc (.chan N #[] false 0 0 false)) := by
  obtain ⟨i0, hi0, hi1, hi2, hi3⟩ := info_parts intInfo
  exact run_makeChan (P := Try.prog) Try.underlying103 hi0 .i64 N (by omega) (by rw [hi3]; simp; omega)

/-- the state ahead of the loops -/
theorem runSt_start {g I Y F B n nl cl ci cy cf : Nat} {Al : Option Addr} {lowV : Value} {xs : List IneqD} {low : List Int} {w w2 : World}
    (hs : Blk w g 76 #[.slice Al nl cl, lowV, .slice (some ⟨I, 0, none⟩) n ci, .slice (some ⟨Y, 0, none⟩) n cy, .slice (some ⟨F, 0, none⟩) n cf]) (hx : IneqsV w B Al nl cl xs) (hB : B ≤ w.heap.size) (hnd : [g, F, I, Y].Nodup) (hlt : ∀ b ∈ [g, F, I, Y], B ≤ b)
    (hn : n ≤ 1048576) (hci : n ≤ ci) (hci2 : ci ≤ maxLen) (hlow : low.length = n) (hlow3 : ∀ v, v < low.length → low.getD v 0 ≤ 3)
    (hI : RowC w I 27 .u8 low) (hY : RowC w Y 3 .i64 (List.replicate n (-1))) (hF : Blk w F 23 (List.replicate n (Value.slice none 0 0)).toArray) (hover : ∀ x ∈ xs, OverL n x)
    (hb : Below w.heap.size w w2) (hz : w2.heap.size = w.heap.size + 4) (hq : QSt w2 (w.heap.size + 3) (w.heap.size + 2) (w.heap.size + 1) w.heap.size n (List.replicate n false) []) :
    RunSt ⟨g, F, I, Y, w.heap.size + 3, w.heap.size + 2, w.heap.size + 1, w.heap.size, B, w.heap.size + 4, n, Al, nl, cl, lowV, ci, cy, cf⟩ w w2 xs low low (List.replicate n (-1)) (List.replicate n (Value.slice none 0 0)) (fun _ => []) (List.replicate n false) [] := by
  have l1 := hs.lt
  have l2 := hF.lt
  have l3 := hI.lt
  have l4 := hY.lt
  have b1 := hlt g (by simp)
  have b2 := hlt F (by simp)
  have b3 := hlt I (by simp)
  have b4 := hlt Y (by simp)
  have hs2 := hs.below hb l1
  refine ⟨⟨?_, ?_, hn, hci, hci2, by show B ≤ w.heap.size + 4; omega⟩, hs2.cell 0, hs2.cell 2, hs2.cell 3, hs2.cell 4, by show w.heap.size + 4 ≤ _; omega, hx.below (hb.mono hB), hlow, hI.below hb l3, hY.below hb l4, by simp, ⟨hF.below hb l2, by show F < w.heap.size + 4; omega, fun j hj => ?_, fun i j b hi hj ei ej => ?_⟩, hq, ?_, hover, Off.of_below hb⟩
  · simp only [List.nodup_cons, List.mem_cons, List.not_mem_nil, or_false, not_or, List.nodup_nil, and_true, not_false_eq_true] at hnd ⊢
    omega
  · intro b hbm
    simp only [List.mem_cons, List.not_mem_nil, or_false] at hbm
    show B ≤ b ∧ b < w.heap.size + 4
    omega
  · refine ⟨by simp, Or.inl ⟨by simp, rfl⟩⟩
  · simp only [List.getElem_replicate] at ei
    cases ei
  · have := InvL.start xs low hlow3
    rw [hlow] at this
    exact this

end Go.Proofs.Ythabkpkgocafoaa
