/- The making of slices of values of one cell; slices.Repeat over a slice of one. -/
import Derived.Test.YthabkpkgocafoaaEaB
import Derived.Test.YthabkpkgocafoaaShelf
import Derived.Laws.CopyOwn
import Derived.Deep.RegionLaw
import Derived.Test.YthabkpkgocafoaaOrd
namespace Go.Proofs.Ythabkpkgocafoaa
set_option linter.unusedVariables false
set_option linter.unusedSimpArgs false
open Go.RowKit Go.Conc

theorem made_one (z : Value) (hz : z.cells = #[z]) (N : Nat) : madeCells z.cells N = (List.replicate N z).toArray := by
  rw [hz]
  unfold madeCells
  apply Array.ext
  · simp
  · intro i h1 h2
    simp [Nat.mod_one]
theorem multInfo : (Try.prog.info? 27).map (fun i => (i.zero, i.size, i.bytes)) = some (some (.int .u8 0), 1, 1) := by kernel_rfl
theorem rowInfo : (Try.prog.info? 23).map (fun i => (i.zero, i.size, i.bytes)) = some (some (.slice none 0 0), 1, 24) := by kernel_rfl
theorem make_mult (N : Nat) (hN : N ≤ 1048576) (w : World) : (Instr.makeSlice 22 (.int .i64 N) (.int .i64 N)).run Try.prog w = .ok (.slice (some ⟨w.heap.size, 0, none⟩) N N) (w.alloc (.cells (List.replicate N (.int .u8 0)).toArray 27)) := by
  obtain ⟨i0, hi0, hi1, hi2, hi3⟩ := info_parts multInfo
  have h := run_makeSlice (P := Try.prog) w 22 27 i0 _ Try.underlying22 hi0 hi1 .i64 .i64 N N (by omega) (by omega) (by rw [hi2]; simp; omega) (by rw [hi3]; simp; omega) (by omega)
  rw [h]
  have : madeCells (.int .u8 0 : Value).cells ((N : Int).toNat * i0.size) = (List.replicate N (.int .u8 0)).toArray := by
    rw [hi2, Int.toNat_natCast, Nat.mul_one]
    exact made_one _ rfl N
  rw [this]
  simp
theorem make_int (N : Nat) (hN : N ≤ 1048576) (w : World) : (Instr.makeSlice 23 (.int .i64 N) (.int .i64 N)).run Try.prog w = .ok (.slice (some ⟨w.heap.size, 0, none⟩) N N) (w.alloc (.cells (List.replicate N (.int .i64 0)).toArray 3)) := by
  obtain ⟨i0, hi0, hi1, hi2, hi3⟩ := info_parts intInfo
  have h := run_makeSlice (P := Try.prog) w 23 3 i0 _ Try.underlying23 hi0 hi1 .i64 .i64 N N (by omega) (by omega) (by rw [hi2]; simp; omega) (by rw [hi3]; simp; omega) (by omega)
  rw [h]
  have : madeCells (.int .i64 0 : Value).cells ((N : Int).toNat * i0.size) = (List.replicate N (.int .i64 0)).toArray := by
    rw [hi2, Int.toNat_natCast, Nat.mul_one]
    exact made_one _ rfl N
  rw [this]
  simp
theorem make_rows (N : Nat) (hN : N ≤ 1048576) (w : World) : (Instr.makeSlice 74 (.int .i64 N) (.int .i64 N)).run Try.prog w = .ok (.slice (some ⟨w.heap.size, 0, none⟩) N N) (w.alloc (.cells (List.replicate N (.slice none 0 0)).toArray 23)) := by
  obtain ⟨i0, hi0, hi1, hi2, hi3⟩ := info_parts rowInfo
  have h := run_makeSlice (P := Try.prog) w 74 23 i0 _ Try.underlying74 hi0 hi1 .i64 .i64 N N (by omega) (by omega) (by rw [hi2]; simp; omega) (by rw [hi3]; simp; omega) (by omega)
  rw [h]
  have : madeCells (.slice none 0 0 : Value).cells ((N : Int).toNat * i0.size) = (List.replicate N (.slice none 0 0)).toArray := by
    rw [hi2, Int.toNat_natCast, Nat.mul_one]
    exact made_one _ rfl N
  rw [this]
  simp

theorem splice_rep (u z : Value) (n k m : Nat) (hm : k + m ≤ n) : splice (List.replicate k u ++ List.replicate (n - k) z) k (List.replicate m u) = List.replicate (k + m) u ++ List.replicate (n - (k + m)) z := by
  unfold splice
  rw [List.take_left' (by simp), List.drop_append, List.drop_of_length_le (by simp), List.nil_append, List.drop_replicate, ← List.append_assoc, List.replicate_append_replicate]
  congr 2
  simp
  omega

theorem run_copy_at (w : World) (T ty E : TypeId) (g o dLen dCap : Nat) (a : Addr) (sLen sCap : Nat) (cur cs : List Value) (t : TypeId)
    (hu : Try.prog.underlying T = some (.slice E)) (hs : (Try.prog.info? E).map (·.size) = some 1) (hg : w.heap[g]? = some (.cells cur.toArray t (0, 0))) (hn : cs.length = Nat.min sLen dLen)
    (hsrc : ∀ j v, cs[j]? = some v → w.cell? (a.add j) = some v) (hfit : o + cs.length ≤ cur.length) (h1 : ∀ v ∈ cs, v.oneCell' = true) (B : Nat) (w0 : World) (hb : Below B w0 w) (hB : B ≤ g) :
    ∃ w2, (Builtin.copy_ #[T, T] ty #[.slice (some ⟨g, o, none⟩) dLen dCap, .slice (some a) sLen sCap]).run Try.prog w = .ok (.int .i64 (cs.length : Nat)) w2 ∧ Blk w2 g t (splice cur o cs).toArray ∧ Below B w0 w2 :=
  ⟨_, run_copy_row (P := Try.prog) w T T ty E g o dLen dCap a sLen sCap cur.toArray t cs hu hs hg hn hsrc (by simpa using hfit) h1, by have := setRow_heap w g cur.toArray (splice cur o cs).toArray t (0, 0) hg; simpa [splice, Blk] using this, below_setRow hb hB _⟩

set_option maxRecDepth 100000 in
set_option maxHeartbeats 1000000 in
theorem repeat_mult (u : Value) (hu1 : u.oneCell' = true) (n : Nat) (hn : n ≤ 1048576) (A : Addr) (c : Nat) (w : World) (hA : w.cell? A = some u) (hAb : A.block < w.heap.size) :
    Calls Try.prog 37 #[.slice (some A) 1 c, .int .i64 n] w fun e w' => ∃ g, e = .returned (.slice (some ⟨g, 0, none⟩) n n) ∧ Blk w' g 27 (List.replicate n u).toArray ∧ w.heap.size ≤ g ∧ Below w.heap.size w w' := by
  have hmul := Try.bits_Mul 1 n (by omega) (by omega) w
  rw [show 1 * n / 18446744073709551616 = 0 by omega, show 1 * n % 18446744073709551616 = n by omega] at hmul
  have Hmul := Lib.hid hmul
  clear hmul
  have hmk := make_mult n hn
  have n63 : n ≤ 9223372036854775807 := by omega
  go_enter Try.func37, Try.ntmps37
  have d0 : decide ((n : Int) < 0) = false := by simp
  have d1 : decide ((n : Int) > 9223372036854775807) = false := by simp; omega
  go_wp2_with fail
  refine Hmul.out.mono ?_
  rintro e w1 ⟨rfl, rfl⟩
  have hb1 : Below w1.heap.size w1 (w1.alloc (.cells (Array.replicate n ((Value.int .u8 0))) 27)) := below_box _
  have hg1 : (w1.alloc (.cells (Array.replicate n ((Value.int .u8 0))) 27)).heap[w1.heap.size]? = some (.cells (List.replicate n ((Value.int .u8 0))).toArray 27 (0, 0)) := (blk_new w1 (Array.replicate n ((Value.int .u8 0))) 27).trans (by simp)
  have hA1 : ∀ j v, (List.replicate (min 1 n) u)[j]? = some v → (w1.alloc (.cells (Array.replicate n ((Value.int .u8 0))) 27)).cell? (A.add j) = some v := fun j v hj => by
    obtain ⟨hj1, hj2⟩ := List.getElem?_eq_some_iff.1 hj
    have hj0 : j = 0 := by simp at hj1; omega
    subst hj0
    simp at hj2
    subst hj2
    rw [show A.add 0 = A from by unfold Addr.add; split <;> simp_all]
    exact (World.cell?_alloc_lt _ _ A hAb).trans hA
  obtain ⟨w2, hcp, hg2, hb2⟩ := run_copy_at (w1.alloc (.cells (Array.replicate n ((Value.int .u8 0))) 27)) 22 3 27 w1.heap.size 0 n n A 1 c (List.replicate n ((Value.int .u8 0))) (List.replicate (min 1 n) u) 27 Try.underlying22 (by kernel_rfl) hg1 (by simp) hA1 (by simp; omega) (by intro v hv; rw [List.eq_of_mem_replicate hv]; exact hu1) w1.heap.size w1 hb1 (Nat.le_refl _)
  have hg3 : Blk w2 w1.heap.size 27 (List.replicate (min 1 n) u ++ List.replicate (n - min 1 n) ((Value.int .u8 0))).toArray := by
    have := splice_rep u ((Value.int .u8 0) : Value) n 0 (min 1 n) (by omega)
    simp only [List.replicate_zero, List.nil_append, Nat.sub_zero, Nat.zero_add] at this
    rw [this] at hg2
    exact hg2
  rw [List.length_replicate] at hcp
  have H3 := Lib.hid hg3
  clear hg2 hg1 hb1 hA1 hg3
  go_wp2_with fail
  have Hb2 := Lib.hid hb2
  have Hsz : Hid (w1.heap.size < w2.heap.size) := Lib.hid H3.out.lt
  clear hb2 hA hAb hcp
  go_loopg [8] (n - min 1 n) (fun gh i wr => ∃ k, k ≤ n ∧ gh = n - k ∧ i = .int .i64 (k : Nat) ∧ (0 < k ∨ n = 0) ∧ Blk wr w1.heap.size 27 (List.replicate k u ++ List.replicate (n - k) ((Value.int .u8 0))).toArray ∧ Below w1.heap.size w1 wr)
  case atStart => exact ⟨min 1 n, by omega, rfl, rfl, by omega, H3.out, Hb2.out⟩
  case round =>
    obtain ⟨k, hk, rfl, rfl, hk0, hbk, hbel⟩ := hrel
    by_cases hkn : k < n
    · have i1 : (0 : Int) ≤ (k : Int) := by omega
      have i2 : (k : Int) ≤ n := by omega
      have i3 : (k : Int) < n := by omega
      have hnk : ¬ n = k := by omega
      have hbl := hbk.lt
      have hsrc : ∀ j v, (List.replicate (min k (n - k)) u)[j]? = some v → wr.drew.cell? (Addr.add ⟨w1.heap.size, 0, none⟩ j) = some v := fun j v hj => by
        obtain ⟨hj1, hj2⟩ := List.getElem?_eq_some_iff.1 hj
        rw [List.length_replicate] at hj1
        rw [List.getElem_replicate] at hj2
        subst hj2
        rw [show Addr.add ⟨w1.heap.size, 0, none⟩ j = ⟨w1.heap.size, j, none⟩ from by unfold Addr.add; split <;> simp_all]
        show wr.cell? _ = _
        rw [Blk.cell hbk]
        have hj3 : j < k := by omega
        simp [List.getElem?_append, hj3]
      go_wp2_with fail
      refine wp_region_noPanic ?_
      refine wp_region_T (fun w' => True) 10 (by kernel_rfl) trivial (fun hHeld => ?_)
      refine wpAnyT_take (i := 0) (v := ?_) rfl (by kernel_rfl) (by kernel_rfl) (by kernel_rfl) (by kernel_rfl) (fun _ _ _ h => h) (Or.inl ⟨by rfl, ?_⟩) (by assumption) ?_
      rotate_left
      · (intro w hSw; (try dsimp only at hSw); first | (go_simp; done) | (go_simp; with_reducible rfl))
      try simp only [Act.put, List.getElem_toArray, List.getElem_cons_zero, List.getElem_cons_succ, List.setIfInBounds_toArray, List.set_cons_zero, List.set_cons_succ]
      refine wpAnyT_take (i := 1) (v := ?_) rfl (by kernel_rfl) (by kernel_rfl) (by kernel_rfl) (by kernel_rfl) (fun _ _ _ h => h) (Or.inl ⟨by rfl, ?_⟩) (by assumption) ?_
      rotate_left
      · (intro w hSw; (try dsimp only at hSw); first | (go_simp; done) | (go_simp; with_reducible rfl))
      try simp only [Act.put, List.getElem_toArray, List.getElem_cons_zero, List.getElem_cons_succ, List.setIfInBounds_toArray, List.set_cons_zero, List.set_cons_succ]
      refine wpAnyT_take (i := 2) (v := ?_) rfl (by kernel_rfl) (by kernel_rfl) (by kernel_rfl) (by kernel_rfl) (fun _ _ _ h => h) (Or.inl ⟨by rfl, ?_⟩) (by assumption) ?_
      rotate_left
      · (intro w hSw; (try dsimp only at hSw); first | (go_simp; done) | (go_simp; with_reducible rfl))
      try simp only [Act.put, List.getElem_toArray, List.getElem_cons_zero, List.getElem_cons_succ, List.setIfInBounds_toArray, List.set_cons_zero, List.set_cons_succ]
      refine wpAnyT_take (i := 3) (v := ?_) rfl (by kernel_rfl) (by kernel_rfl) (by kernel_rfl) (by kernel_rfl) (fun _ _ _ h => h) (Or.inl ⟨by rfl, ?_⟩) (by assumption) ?_
      rotate_left
      · (intro w hSw; (try dsimp only at hSw); first | (go_simp; done) | (go_simp; with_reducible rfl))
      try simp only [Act.put, List.getElem_toArray, List.getElem_cons_zero, List.getElem_cons_succ, List.setIfInBounds_toArray, List.set_cons_zero, List.set_cons_succ]
      refine wpAnyT_take (i := 4) (v := ?_) rfl (by kernel_rfl) (by kernel_rfl) (by kernel_rfl) (by kernel_rfl) (fun _ _ _ h => h) (Or.inl ⟨by rfl, ?_⟩) (by assumption) ?_
      rotate_left
      · (intro w hSw; (try dsimp only at hSw); first | (go_simp; done) | (go_simp; with_reducible rfl))
      try simp only [Act.put, List.getElem_toArray, List.getElem_cons_zero, List.getElem_cons_succ, List.setIfInBounds_toArray, List.set_cons_zero, List.set_cons_succ]
      refine wpAnyT_take (i := 5) (v := ?_) rfl (by kernel_rfl) (by kernel_rfl) (by kernel_rfl) (by kernel_rfl) (fun _ _ _ h => h) (Or.inl ⟨by rfl, ?_⟩) (by assumption) ?_
      rotate_left
      · (intro w hSw; (try dsimp only at hSw); first | (go_simp; done) | (go_simp; with_reducible rfl))
      try simp only [Act.put, List.getElem_toArray, List.getElem_cons_zero, List.getElem_cons_succ, List.setIfInBounds_toArray, List.set_cons_zero, List.set_cons_succ]
      refine wpAnyT_take (i := 6) (v := ?_) rfl (by kernel_rfl) (by kernel_rfl) (by kernel_rfl) (by kernel_rfl) (fun _ _ _ h => h) (Or.inl ⟨by rfl, ?_⟩) (by assumption) ?_
      rotate_left
      · (intro w hSw; (try dsimp only at hSw); first | (go_simp; done) | (go_simp; with_reducible rfl))
      try simp only [Act.put, List.getElem_toArray, List.getElem_cons_zero, List.getElem_cons_succ, List.setIfInBounds_toArray, List.set_cons_zero, List.set_cons_succ]
      refine wpAnyT_step (i := 7) (by kernel_rfl) rfl (fun K hK => ?_)
      (refine step_copy_splice rfl (.tmp 41) (.tmp 44) 22 22 (by rfl) 27 Try.underlying22 (by kernel_rfl) (some ⟨w1.heap.size, k, none⟩) (some ⟨w1.heap.size, 0, none⟩) (n - k) (n - k) k n (by rfl) (by rfl) w1.heap.size k (List.replicate k u ++ List.replicate (n - k) (Value.int .u8 0)) 27 hbk (List.replicate (min k (n - k)) u) (by simp) (fun _ => ⟨rfl, _, rfl, hsrc⟩) (by simp; omega) (by intro v hv; rw [List.eq_of_mem_replicate hv]; exact hu1) w1.heap.size w1 hbel.drew (Nat.le_refl _) ?_; intro w7 hg7 hb7)
      refine hK.out _ _ trivial ?_
      clear hK K
      try simp only [Act.put, List.getElem_toArray, List.getElem_cons_zero, List.getElem_cons_succ, List.setIfInBounds_toArray, List.set_cons_zero, List.set_cons_succ]
      rw [List.length_replicate]
      have hg8 := hg7.out
      rw [splice_rep u (Value.int .u8 0) n k (min k (n - k)) (by omega)] at hg8
      have Hg8 := Lib.hid hg8
      have Hb7 := Lib.hid hb7
      clear hg7 hg8 hb7 hbk hbel hsrc
      refine wpAnyT_step (i := 8) (by kernel_rfl) rfl (fun K hK => ?_)
      go_simp
      refine hK.out _ _ trivial ?_
      clear hK K
      try simp only [Act.put, List.getElem_toArray, List.getElem_cons_zero, List.getElem_cons_succ, List.setIfInBounds_toArray, List.set_cons_zero, List.set_cons_succ]
      refine wpAnyT_step (i := 9) (by kernel_rfl) rfl (fun K hK => ?_)
      go_simp
      refine hK.out _ _ trivial ?_
      clear hK K
      try simp only [Act.put, List.getElem_toArray, List.getElem_cons_zero, List.getElem_cons_succ, List.setIfInBounds_toArray, List.set_cons_zero, List.set_cons_succ]
      refine wpAnyT_seq 10 (by omega) (by rfl) (by kernel_rfl) ?_
      simp only [List.drop_succ_cons, List.drop_zero]
      go_wp2_with fail
      refine NoPanic.normal ?_
      go_wp2_with fail
      go_roundg (n - (k + min k (n - k)))
      case measure =>
        have h1 : 0 < min k (n - k) := Nat.lt_min.2 ⟨by omega, by omega⟩
        have h2 : min k (n - k) ≤ n - k := Nat.min_le_right _ _
        exact Nat.sub_lt_sub_left hkn (by omega)
      case rel => exact ⟨k + min k (n - k), by have := Nat.min_le_right k (n - k); omega, rfl, by have h9 := Nat.min_le_right k (n - k); rw [IntWalk.i64_in _ (by omega), Int.natCast_add], Or.inl (by omega), Hg8.out, Hb7.out⟩
    · have hkn' : k = n := by omega
      subst hkn'
      rw [Nat.sub_self, List.replicate_zero, List.append_nil] at hbk
      have Hbk := Lib.hid hbk
      have Hbel := Lib.hid hbel
      clear hbk hbel
      go_wp2_with fail
      go_ret
      exact ⟨_, rfl, Hbk.out, Nat.le_refl _, Hbel.out⟩
set_option maxRecDepth 100000 in
set_option maxHeartbeats 1000000 in
theorem repeat_int (u : Value) (hu1 : u.oneCell' = true) (n : Nat) (hn : n ≤ 1048576) (A : Addr) (c : Nat) (w : World) (hA : w.cell? A = some u) (hAb : A.block < w.heap.size) :
    Calls Try.prog 43 #[.slice (some A) 1 c, .int .i64 n] w fun e w' => ∃ g, e = .returned (.slice (some ⟨g, 0, none⟩) n n) ∧ Blk w' g 3 (List.replicate n u).toArray ∧ w.heap.size ≤ g ∧ Below w.heap.size w w' := by
  have hmul := Try.bits_Mul 1 n (by omega) (by omega) w
  rw [show 1 * n / 18446744073709551616 = 0 by omega, show 1 * n % 18446744073709551616 = n by omega] at hmul
  have Hmul := Lib.hid hmul
  clear hmul
  have hmk := make_int n hn
  have n63 : n ≤ 9223372036854775807 := by omega
  go_enter Try.func43, Try.ntmps43
  have d0 : decide ((n : Int) < 0) = false := by simp
  have d1 : decide ((n : Int) > 9223372036854775807) = false := by simp; omega
  go_wp2_with fail
  refine Hmul.out.mono ?_
  rintro e w1 ⟨rfl, rfl⟩
  have hb1 : Below w1.heap.size w1 (w1.alloc (.cells (Array.replicate n ((Value.int .i64 0))) 3)) := below_box _
  have hg1 : (w1.alloc (.cells (Array.replicate n ((Value.int .i64 0))) 3)).heap[w1.heap.size]? = some (.cells (List.replicate n ((Value.int .i64 0))).toArray 3 (0, 0)) := (blk_new w1 (Array.replicate n ((Value.int .i64 0))) 3).trans (by simp)
  have hA1 : ∀ j v, (List.replicate (min 1 n) u)[j]? = some v → (w1.alloc (.cells (Array.replicate n ((Value.int .i64 0))) 3)).cell? (A.add j) = some v := fun j v hj => by
    obtain ⟨hj1, hj2⟩ := List.getElem?_eq_some_iff.1 hj
    have hj0 : j = 0 := by simp at hj1; omega
    subst hj0
    simp at hj2
    subst hj2
    rw [show A.add 0 = A from by unfold Addr.add; split <;> simp_all]
    exact (World.cell?_alloc_lt _ _ A hAb).trans hA
  obtain ⟨w2, hcp, hg2, hb2⟩ := run_copy_at (w1.alloc (.cells (Array.replicate n ((Value.int .i64 0))) 3)) 23 3 3 w1.heap.size 0 n n A 1 c (List.replicate n ((Value.int .i64 0))) (List.replicate (min 1 n) u) 3 Try.underlying23 (by kernel_rfl) hg1 (by simp) hA1 (by simp; omega) (by intro v hv; rw [List.eq_of_mem_replicate hv]; exact hu1) w1.heap.size w1 hb1 (Nat.le_refl _)
  have hg3 : Blk w2 w1.heap.size 3 (List.replicate (min 1 n) u ++ List.replicate (n - min 1 n) ((Value.int .i64 0))).toArray := by
    have := splice_rep u ((Value.int .i64 0) : Value) n 0 (min 1 n) (by omega)
    simp only [List.replicate_zero, List.nil_append, Nat.sub_zero, Nat.zero_add] at this
    rw [this] at hg2
    exact hg2
  rw [List.length_replicate] at hcp
  have H3 := Lib.hid hg3
  clear hg2 hg1 hb1 hA1 hg3
  go_wp2_with fail
  have Hb2 := Lib.hid hb2
  have Hsz : Hid (w1.heap.size < w2.heap.size) := Lib.hid H3.out.lt
  clear hb2 hA hAb hcp
  go_loopg [8] (n - min 1 n) (fun gh i wr => ∃ k, k ≤ n ∧ gh = n - k ∧ i = .int .i64 (k : Nat) ∧ (0 < k ∨ n = 0) ∧ Blk wr w1.heap.size 3 (List.replicate k u ++ List.replicate (n - k) ((Value.int .i64 0))).toArray ∧ Below w1.heap.size w1 wr)
  case atStart => exact ⟨min 1 n, by omega, rfl, rfl, by omega, H3.out, Hb2.out⟩
  case round =>
    obtain ⟨k, hk, rfl, rfl, hk0, hbk, hbel⟩ := hrel
    by_cases hkn : k < n
    · have i1 : (0 : Int) ≤ (k : Int) := by omega
      have i2 : (k : Int) ≤ n := by omega
      have i3 : (k : Int) < n := by omega
      have hnk : ¬ n = k := by omega
      have hbl := hbk.lt
      have hsrc : ∀ j v, (List.replicate (min k (n - k)) u)[j]? = some v → wr.drew.cell? (Addr.add ⟨w1.heap.size, 0, none⟩ j) = some v := fun j v hj => by
        obtain ⟨hj1, hj2⟩ := List.getElem?_eq_some_iff.1 hj
        rw [List.length_replicate] at hj1
        rw [List.getElem_replicate] at hj2
        subst hj2
        rw [show Addr.add ⟨w1.heap.size, 0, none⟩ j = ⟨w1.heap.size, j, none⟩ from by unfold Addr.add; split <;> simp_all]
        show wr.cell? _ = _
        rw [Blk.cell hbk]
        have hj3 : j < k := by omega
        simp [List.getElem?_append, hj3]
      go_wp2_with fail
      refine wp_region_noPanic ?_
      refine wp_region_T (fun w' => True) 10 (by kernel_rfl) trivial (fun hHeld => ?_)
      refine wpAnyT_take (i := 0) (v := ?_) rfl (by kernel_rfl) (by kernel_rfl) (by kernel_rfl) (by kernel_rfl) (fun _ _ _ h => h) (Or.inl ⟨by rfl, ?_⟩) (by assumption) ?_
      rotate_left
      · (intro w hSw; (try dsimp only at hSw); first | (go_simp; done) | (go_simp; with_reducible rfl))
      try simp only [Act.put, List.getElem_toArray, List.getElem_cons_zero, List.getElem_cons_succ, List.setIfInBounds_toArray, List.set_cons_zero, List.set_cons_succ]
      refine wpAnyT_take (i := 1) (v := ?_) rfl (by kernel_rfl) (by kernel_rfl) (by kernel_rfl) (by kernel_rfl) (fun _ _ _ h => h) (Or.inl ⟨by rfl, ?_⟩) (by assumption) ?_
      rotate_left
      · (intro w hSw; (try dsimp only at hSw); first | (go_simp; done) | (go_simp; with_reducible rfl))
      try simp only [Act.put, List.getElem_toArray, List.getElem_cons_zero, List.getElem_cons_succ, List.setIfInBounds_toArray, List.set_cons_zero, List.set_cons_succ]
      refine wpAnyT_take (i := 2) (v := ?_) rfl (by kernel_rfl) (by kernel_rfl) (by kernel_rfl) (by kernel_rfl) (fun _ _ _ h => h) (Or.inl ⟨by rfl, ?_⟩) (by assumption) ?_
      rotate_left
      · (intro w hSw; (try dsimp only at hSw); first | (go_simp; done) | (go_simp; with_reducible rfl))
      try simp only [Act.put, List.getElem_toArray, List.getElem_cons_zero, List.getElem_cons_succ, List.setIfInBounds_toArray, List.set_cons_zero, List.set_cons_succ]
      refine wpAnyT_take (i := 3) (v := ?_) rfl (by kernel_rfl) (by kernel_rfl) (by kernel_rfl) (by kernel_rfl) (fun _ _ _ h => h) (Or.inl ⟨by rfl, ?_⟩) (by assumption) ?_
      rotate_left
      · (intro w hSw; (try dsimp only at hSw); first | (go_simp; done) | (go_simp; with_reducible rfl))
      try simp only [Act.put, List.getElem_toArray, List.getElem_cons_zero, List.getElem_cons_succ, List.setIfInBounds_toArray, List.set_cons_zero, List.set_cons_succ]
      refine wpAnyT_take (i := 4) (v := ?_) rfl (by kernel_rfl) (by kernel_rfl) (by kernel_rfl) (by kernel_rfl) (fun _ _ _ h => h) (Or.inl ⟨by rfl, ?_⟩) (by assumption) ?_
      rotate_left
      · (intro w hSw; (try dsimp only at hSw); first | (go_simp; done) | (go_simp; with_reducible rfl))
      try simp only [Act.put, List.getElem_toArray, List.getElem_cons_zero, List.getElem_cons_succ, List.setIfInBounds_toArray, List.set_cons_zero, List.set_cons_succ]
      refine wpAnyT_take (i := 5) (v := ?_) rfl (by kernel_rfl) (by kernel_rfl) (by kernel_rfl) (by kernel_rfl) (fun _ _ _ h => h) (Or.inl ⟨by rfl, ?_⟩) (by assumption) ?_
      rotate_left
      · (intro w hSw; (try dsimp only at hSw); first | (go_simp; done) | (go_simp; with_reducible rfl))
      try simp only [Act.put, List.getElem_toArray, List.getElem_cons_zero, List.getElem_cons_succ, List.setIfInBounds_toArray, List.set_cons_zero, List.set_cons_succ]
      refine wpAnyT_take (i := 6) (v := ?_) rfl (by kernel_rfl) (by kernel_rfl) (by kernel_rfl) (by kernel_rfl) (fun _ _ _ h => h) (Or.inl ⟨by rfl, ?_⟩) (by assumption) ?_
      rotate_left
      · (intro w hSw; (try dsimp only at hSw); first | (go_simp; done) | (go_simp; with_reducible rfl))
      try simp only [Act.put, List.getElem_toArray, List.getElem_cons_zero, List.getElem_cons_succ, List.setIfInBounds_toArray, List.set_cons_zero, List.set_cons_succ]
      refine wpAnyT_step (i := 7) (by kernel_rfl) rfl (fun K hK => ?_)
      (refine step_copy_splice rfl (.tmp 41) (.tmp 44) 23 23 (by rfl) 3 Try.underlying23 (by kernel_rfl) (some ⟨w1.heap.size, k, none⟩) (some ⟨w1.heap.size, 0, none⟩) (n - k) (n - k) k n (by rfl) (by rfl) w1.heap.size k (List.replicate k u ++ List.replicate (n - k) (Value.int .i64 0)) 3 hbk (List.replicate (min k (n - k)) u) (by simp) (fun _ => ⟨rfl, _, rfl, hsrc⟩) (by simp; omega) (by intro v hv; rw [List.eq_of_mem_replicate hv]; exact hu1) w1.heap.size w1 hbel.drew (Nat.le_refl _) ?_; intro w7 hg7 hb7)
      refine hK.out _ _ trivial ?_
      clear hK K
      try simp only [Act.put, List.getElem_toArray, List.getElem_cons_zero, List.getElem_cons_succ, List.setIfInBounds_toArray, List.set_cons_zero, List.set_cons_succ]
      rw [List.length_replicate]
      have hg8 := hg7.out
      rw [splice_rep u (Value.int .i64 0) n k (min k (n - k)) (by omega)] at hg8
      have Hg8 := Lib.hid hg8
      have Hb7 := Lib.hid hb7
      clear hg7 hg8 hb7 hbk hbel hsrc
      refine wpAnyT_step (i := 8) (by kernel_rfl) rfl (fun K hK => ?_)
      go_simp
      refine hK.out _ _ trivial ?_
      clear hK K
      try simp only [Act.put, List.getElem_toArray, List.getElem_cons_zero, List.getElem_cons_succ, List.setIfInBounds_toArray, List.set_cons_zero, List.set_cons_succ]
      refine wpAnyT_step (i := 9) (by kernel_rfl) rfl (fun K hK => ?_)
      go_simp
      refine hK.out _ _ trivial ?_
      clear hK K
      try simp only [Act.put, List.getElem_toArray, List.getElem_cons_zero, List.getElem_cons_succ, List.setIfInBounds_toArray, List.set_cons_zero, List.set_cons_succ]
      refine wpAnyT_seq 10 (by omega) (by rfl) (by kernel_rfl) ?_
      simp only [List.drop_succ_cons, List.drop_zero]
      go_wp2_with fail
      refine NoPanic.normal ?_
      go_wp2_with fail
      go_roundg (n - (k + min k (n - k)))
      case measure =>
        have h1 : 0 < min k (n - k) := Nat.lt_min.2 ⟨by omega, by omega⟩
        have h2 : min k (n - k) ≤ n - k := Nat.min_le_right _ _
        exact Nat.sub_lt_sub_left hkn (by omega)
      case rel => exact ⟨k + min k (n - k), by have := Nat.min_le_right k (n - k); omega, rfl, by have h9 := Nat.min_le_right k (n - k); rw [IntWalk.i64_in _ (by omega), Int.natCast_add], Or.inl (by omega), Hg8.out, Hb7.out⟩
    · have hkn' : k = n := by omega
      subst hkn'
      rw [Nat.sub_self, List.replicate_zero, List.append_nil] at hbk
      have Hbk := Lib.hid hbk
      have Hbel := Lib.hid hbel
      clear hbk hbel
      go_wp2_with fail
      go_ret
      exact ⟨_, rfl, Hbk.out, Nat.le_refl _, Hbel.out⟩

end Go.Proofs.Ythabkpkgocafoaa
