/- The contract of TermApart's inner function; words for its memory. -/
import Derived.Test.YtbccnfgceabopaaLawU
import Derived.Test.YtbccnfgceabopaaApart
import Derived.Laws.MakeOwn
namespace Go.Proofs.Ytbccnfgceabopaa
set_option linter.unusedVariables false
set_option linter.unusedSimpArgs false
open Go.RowKit

/-- block g holds just these multiplicities -/
def BlkM (w : World) (g : Nat) (l : List Int) : Prop := Blk w g 22 (l.map (Value.int .u8)).toArray
section
variable {w w' : World} {g n : Nat} {l : List Int}
theorem BlkM.rd (h : BlkM w g l) (hl : l.length = n) (hn : n ≤ maxLen) : RdI .u8 w w.heap.size (some ⟨g, 0, none⟩) n n l := by
  refine ⟨⟨by simp [hl], fun _ => ⟨g, 0, rfl, h.lt, fun j u hu => ?_⟩⟩, Nat.le_refl _, hn⟩
  rw [Blk.cell h]
  simpa using hu
theorem BlkM.set (h : BlkM w g l) (i : Nat) (x : Int) : BlkM (w.setCell ⟨g, i, none⟩ (.int .u8 x)) g (l.set i x) := by
  have := Blk.set_ h i (.int .u8 x)
  unfold BlkM
  rw [List.map_set]
  simpa using this
end

theorem alike_any (a b : TermD) (g2 g3 g8 : Nat) (A : Option Addr) (n c : Nat) (asg : List Int) (w : World) (ha : BoxT w g2 a) (hb : BoxT w g3 b) (h8 : Blk w g8 31 #[.slice A n c]) (hr : RdI .u8 w w.heap.size A n c asg) :
    Calls Try.prog 11 #[.pointer (some ⟨g2, 0, none⟩), .pointer (some ⟨g8, 0, none⟩), .pointer (some ⟨g3, 0, none⟩)] w fun e w' => e = .returned (.bool (alikeB a b asg)) ∧ Below w.heap.size w w' := by
  have hal : alikeB a b asg = ((atR a asg).2 == 0 && (atR b asg).2 == 0 && (atR a asg).1 == (atR b asg).1) := rfl
  obtain ⟨A2, n2, c2, x0, x1, x2, _, _, _, hr2⟩ := ha.val
  have y0 : w.cell? ⟨g8, 0, none⟩ = some (.slice A n c) := h8.cell 0
  have Hal := Lib.hid hal
  have Hr2 := Lib.hid hr2
  have Hr := Lib.hid hr
  clear hal hr2 hr
  go_enter Try.func11, Try.ntmps11
  go_wp2_with fail
  refine (at_any (.agg #[.bool a.never, .int .u8 a.c, .slice A2 n2 c2]) a A n c asg w _ _ ⟨A2, n2, c2, rfl, Hr2.out⟩ (Nat.le_refl _) Hr.out (Nat.le_refl _)).mono ?_
  rintro e w1 ⟨rfl, hb1⟩
  have hb' := hb.below hb1
  have h8' := h8.below hb1 h8.lt
  have Hr1 := Lib.hid ((Hr.out.below hb1).more hb1.size)
  clear x0 x1 x2 y0
  obtain ⟨A3, n3, c3, x0, x1, x2, _, _, _, hr3⟩ := hb'.val
  have y0 : w1.cell? ⟨g8, 0, none⟩ = some (.slice A n c) := h8'.cell 0
  have Hr3 := Lib.hid hr3
  clear hr3
  go_wp2_with fail
  refine (at_any (.agg #[.bool b.never, .int .u8 b.c, .slice A3 n3 c3]) b A n c asg w1 _ _ ⟨A3, n3, c3, rfl, Hr3.out⟩ (Nat.le_refl _) Hr1.out (Nat.le_refl _)).mono ?_
  rintro e w2 ⟨rfl, hb2⟩
  have hw2 := hb1.trans (hb2.mono hb1.size)
  clear x0 x1 x2 y0 hb1 hb2
  generalize (atR a asg).1 = u at Hal ⊢
  generalize (atR a asg).2 = e1 at Hal ⊢
  generalize (atR b asg).1 = v at Hal ⊢
  generalize (atR b asg).2 = e2 at Hal ⊢
  cases d1 : (e1 == 0)
  · have HF : Hid (alikeB a b asg = false) := by show _ = _; rw [Hal.out, d1]; rfl
    go_wp2_with fail
    go_ret
    exact ⟨by rw [HF.out]; rfl, hw2⟩
  · cases d2 : (e2 == 0)
    · have HF : Hid (alikeB a b asg = false) := by show _ = _; rw [Hal.out, d1, d2]; rfl
      go_wp2_with fail
      go_ret
      exact ⟨by rw [HF.out]; rfl, hw2⟩
    · have HF : Hid (alikeB a b asg = (u == v)) := by show _ = _; rw [Hal.out, d1, d2]; rfl
      go_wp2_with fail
      go_ret
      exact ⟨by rw [HF.out]; rfl, hw2⟩

/-- the memory behind the assignment's making: base world w5, variable g8, content block G -/
structure ApSt (w5 : World) (g8 G N : Nat) (l : List Int) (wr : World) : Prop where
  bel : Below w5.heap.size w5 wr
  v8 : Blk wr g8 31 #[.slice (some ⟨G, 0, none⟩) N N]
  m : BlkM wr G l
  hG : w5.heap.size ≤ G
  hne : G ≠ g8
section
variable {w5 w w' : World} {g8 G N : Nat} {l : List Int}
theorem ApSt.below (h : ApSt w5 g8 G N l w) (hb : Below w.heap.size w w') : ApSt w5 g8 G N l w' :=
  ⟨h.bel.trans (hb.mono h.bel.size), h.v8.below hb h.v8.lt, Blk.below h.m hb (Blk.lt h.m), h.hG, h.hne⟩
theorem ApSt.put (h : ApSt w5 g8 G N l w) (i : Nat) (x : Int) : ApSt w5 g8 G N (l.set i x) (w.setCell ⟨G, i, none⟩ (.int .u8 x)) :=
  ⟨h.bel.setCell (p := ⟨G, i, none⟩) h.hG _, h.v8.other h.hne _ _, h.m.set i x, h.hG, h.hne⟩
theorem ApSt.cell (h : ApSt w5 g8 G N l w) (i : Nat) (hi : i < l.length) : w.cell? ⟨G, i, none⟩ = some (.int .u8 l[i]) := by
  rw [Blk.cell h.m]
  simp [hi]
theorem ApSt.frozen (h : ApSt w5 g8 G N l w) (i : Nat) : w.frozen? ⟨G, i, none⟩ = false := Blk.frozen h.m i
theorem ApSt.var (h : ApSt w5 g8 G N l w) : w.cell? ⟨g8, 0, none⟩ = some (.slice (some ⟨G, 0, none⟩) N N) := h.v8.cell 0
theorem ApSt.rd (h : ApSt w5 g8 G N l w) (hl : l.length = N) (hn : N ≤ maxLen) : RdI .u8 w w.heap.size (some ⟨G, 0, none⟩) N N l := h.m.rd hl hn
end
def zerosA (N : Nat) : Array Value := ((List.replicate N (0 : Int)).map (Value.int .u8)).toArray
theorem multInfo : (Try.prog.info? 22).map (fun i => (i.zero, i.size, i.bytes)) = some (some (.int .u8 0), 1, 1) := by kernel_rfl
theorem make_mults (N : Nat) (hN : N ≤ 1048576) (w : World) : (Instr.makeSlice 31 (.int .i64 N) (.int .i64 N)).run Try.prog w = .ok (.slice (some ⟨w.heap.size, 0, none⟩) N N) (w.alloc (.cells (zerosA N) 22)) := by
  obtain ⟨i0, hi0, hi1, hi2, hi3⟩ := info_parts multInfo
  have h := run_makeSlice (P := Try.prog) w 31 22 i0 _ Try.underlying31 hi0 hi1 .i64 .i64 N N (by omega) (by omega) (by rw [hi2]; simp; omega) (by rw [hi3]; simp; omega) (by omega)
  rw [h]
  have : madeCells (Value.int .u8 0).cells ((N : Int).toNat * i0.size) = zerosA N := by
    rw [hi2]
    unfold madeCells zerosA
    apply Array.ext
    · simp
    · intro i h1 h2
      simp [Value.cells, Nat.mod_one]
  rw [this]
  simp
def fillL (N k : Nat) : List Int := List.replicate k 1 ++ List.replicate (N - k) 0
theorem fillL_len {N k : Nat} (h : k ≤ N) : (fillL N k).length = N := by simp [fillL]; omega
theorem fillL_set {N k : Nat} (h : k < N) : (fillL N k).set k 1 = fillL N (k + 1) := by
  unfold fillL
  rw [List.set_append_right _ _ (by simp)]
  obtain ⟨m, hm⟩ : ∃ m, N - k = m + 1 := ⟨N - k - 1, by omega⟩
  rw [hm, show N - (k + 1) = m by omega, List.replicate_succ, List.length_replicate, Nat.sub_self, List.set_cons_zero, List.replicate_succ']
  simp
theorem fillL_all (N : Nat) : fillL N N = ones N := by simp [fillL, ones]
theorem many_back {N z : Nat} : (many N (z : Int)).set z 1 = ones N := by
  unfold many ones
  rw [Int.toNat_natCast, List.set_set]
  by_cases h : z < N
  · apply List.ext_getElem
    · simp
    · intro i h1 h2
      simp [List.getElem_set]
  · rw [List.set_eq_of_length_le (by simp; omega)]

end Go.Proofs.Ytbccnfgceabopaa
