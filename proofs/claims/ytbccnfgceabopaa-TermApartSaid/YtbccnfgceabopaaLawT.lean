/- The contracts of the helpers of package usufructlaw02: some, works, great. -/
import Derived.Test.YtbccnfgceabopaaTermK
import Derived.Test.YtbccnfgceabopaaPlB
import Derived.Test.YtbccnfgceabopaaRefX
import Derived.Deep.RegionHeld3
namespace Go.Proofs.Ytbccnfgceabopaa
set_option linter.unusedVariables false
set_option linter.unusedSimpArgs false
open Go.RowKit

theorem some_any (x : Int) (A : Option Addr) (n c : Nat) (w : World) :
    Calls Try.prog 23 #[.int .u8 x, .slice A n c] w fun e w' => e = .returned (.agg #[.bool false, .int .u8 x, .slice A n c]) ∧ Below w.heap.size w w' := by
  go_enter Try.func23, Try.ntmps23
  go_wp2_with fail
  exact bodyPost_ret (v := .agg #[.bool false, .int .u8 x, .slice A n c]) (by simp [results, Try.results23, go_sem]) rfl ⟨rfl, below_box _⟩

theorem works_join : joinT [⟨false, 1, [1]⟩, ⟨true, 0, []⟩] = ⟨false, 2, [1]⟩ := by
  have h := sset_self (l := [1]) (by simp [Rises])
  simp [joinT, someT, joinC0, joinCs, joinVs, cleanT, h]
  decide
theorem works_at : atR ⟨false, 2, [1]⟩ [1, 3] = (3, 0) := by decide +kernel

/-- two terms laid side by side -/
theorem terms2 {w : World} {b : Nat} {B : Nat} {x y : TermD} {A A' : Option Addr} {n c n' c' : Nat} (h : Blk w b 25 #[.bool x.never, .int .u8 x.c, .slice A n c, .bool y.never, .int .u8 y.c, .slice A' n' c']) (hb : b < B) (h1 : RdI .i64 w B A n c x.vars) (h2 : RdI .i64 w B A' n' c' y.vars) : TermsV w B (some ⟨b, 0, none⟩) 2 2 [x, y] :=
  ⟨rfl, Nat.le_refl _, by unfold maxLen; omega, fun _ => ⟨b, 0, rfl, hb, fun i hi => by
    match i, hi with
    | 0, _ => exact ⟨A, n, c, h.cell 0, h.cell 1, h.cell 2, h1⟩
    | 1, _ => exact ⟨A', n', c', h.cell 3, h.cell 4, h.cell 5, h2⟩⟩⟩

set_option maxHeartbeats 1000000 in
theorem works_any (w : World) :
    Calls Try.prog 9 #[] w fun e w' => e = .returned (.bool true) ∧ Below w.heap.size w w' := by
  go_enter Try.func9, Try.ntmps9
  go_wp2_with fail
  refine (some_any _ _ _ _ _).mono ?_; rintro e w1 ⟨rfl, hb1⟩
  have hb0 := below_box (w := w) (Obj.cells #[.int .i64 1] 3)
  have hn0 : Blk w1 w.heap.size 3 #[.int .i64 1] := (blk_new _ _ _).below hb1 (by simp)
  have hbel1 : Below w.heap.size w w1 := hb0.trans (hb1.mono hb0.size)
  clear hb1 hb0
  go_wp2_with fail
  have hrd : RdI .i64 w1 w1.heap.size (some ⟨w.heap.size, 0, none⟩) 1 1 [1] :=
    ⟨⟨rfl, fun _ => ⟨_, 0, rfl, hn0.lt, fun j u hu => by rw [hn0.cell, Nat.zero_add]; simpa using hu⟩⟩, Nat.le_refl _, by unfold maxLen; omega⟩
  have hb2 := below_box (w := w1) (Obj.cells #[.bool false, .int .u8 1, .slice (some ⟨w.heap.size, 0, none⟩) 1 1, .bool true, .int .u8 0, .slice none 0 0] 25)
  have hblk := blk_new w1 #[.bool false, .int .u8 1, .slice (some ⟨w.heap.size, 0, none⟩) 1 1, .bool true, .int .u8 0, .slice none 0 0] 25
  have hts := terms2 (x := ⟨false, 1, [1]⟩) (y := ⟨true, 0, []⟩) (B := w1.heap.size + 1) hblk (by omega) ((hrd.below hb2).more (by omega)) RdI.nil
  have hl1 : (joinVs [⟨false, 1, [1]⟩, ⟨true, 0, []⟩]).length ≤ 1099511627776 := by simp [joinVs]
  refine (join_yes _ _ _ _ _ (by rw [World.size_alloc]; exact hts) (by decide +kernel) (by omega) hl1).mono ?_
  rintro e w2 ⟨A3, n3, c3, rfl, hr3, hb3⟩
  rw [works_join] at hr3 ⊢
  have hn3 : n3 = 1 := hr3.len.symm
  subst hn3
  have hbel3 : Below w.heap.size w w2 := (hbel1.trans (hb2.mono hbel1.size)).trans (hb3.mono (Nat.le_trans hbel1.size hb2.size))
  clear hb3 hb2 hblk hts hrd hn0 hl1 hbel1
  go_wp2_with fail
  have hb4 := below_box (w := w2) (Obj.cells #[.bool false, .int .u8 2, .slice A3 1 c3] 25)
  have hself := blk_new w2 #[.bool false, .int .u8 2, .slice A3 1 c3] 25
  have hr4 := hr3.below hb4
  have hg : w2.heap.size < (w2.alloc (Obj.cells #[.bool false, .int .u8 2, .slice A3 1 c3] 25)).heap.size := by simp
  have hbel4 := hbel3.trans (hb4.mono hbel3.size)
  have hz4 : (w2.alloc (Obj.cells #[.bool false, .int .u8 2, .slice A3 1 c3] 25)).heap.size = w2.heap.size + 1 := by simp
  generalize w2.alloc (Obj.cells #[.bool false, .int .u8 2, .slice A3 1 c3] 25) = w4 at hself hr4 hg hbel4 hz4 ⊢
  rw [← hz4]
  have hb5 := below_box (w := w4) (Obj.cells #[.int .u8 1, .int .u8 3] 22)
  have hasg : RdI .u8 (w4.alloc (Obj.cells #[.int .u8 1, .int .u8 3] 22)) (w4.heap.size + 1) (some ⟨w4.heap.size, 0, none⟩) 2 2 [1, 3] :=
    ⟨Rd.new w4 [.int .u8 1, .int .u8 3] 22, Nat.le_refl _, by unfold maxLen; omega⟩
  refine (at_any (.agg #[.bool false, .int .u8 2, .slice A3 1 c3]) ⟨false, 2, [1]⟩ _ 2 2 [1, 3] _ _ _ ⟨A3, 1, c3, rfl, hr4.below (hb5.mono (by omega))⟩ (by simp; omega) hasg (by simp)).mono ?_
  rintro e w6 ⟨rfl, hb6⟩
  rw [works_at]
  have hb46 : Below w4.heap.size w4 w6 := hb5.trans (hb6.mono hb5.size)
  have hself6 := hself.below hb46 hg
  have hr6 := (hr4.below (hb46.mono (by omega))).more (B' := w6.heap.size) (by have := hb46.size; omega)
  have hbel6 := hbel4.trans (hb46.mono hbel4.size)
  have hg6 : w2.heap.size < w6.heap.size := hself6.lt
  clear hz4 hb5 hb6 hasg hself hr4 hb4 hr3 hbel3 hbel4 hb46 hg
  have c0 : w6.cell? ⟨w2.heap.size, 0, none⟩ = some (.bool false) := hself6.cell 0
  have c1 : w6.cell? ⟨w2.heap.size, 1, none⟩ = some (.int .u8 2) := hself6.cell 1
  have c2 : w6.cell? ⟨w2.heap.size, 2, none⟩ = some (.slice A3 1 c3) := hself6.cell 2
  generalize w2.heap.size = g at hself6 c0 c1 c2 hg6 ⊢
  clear hself6
  go_wp2_with fail
  go_region_held3 (fun w' => w'.cell? ⟨g, 0, none⟩ = some (.bool false) ∧ w'.cell? ⟨g, 1, none⟩ = some (.int .u8 2) ∧ w'.cell? ⟨g, 2, none⟩ = some (.slice A3 1 c3))
    (first | go_keep | exact ⟨(hbB.cell (p := ⟨g, 0, none⟩) hg6).trans c0, (hbB.cell (p := ⟨g, 1, none⟩) hg6).trans c1, (hbB.cell (p := ⟨g, 2, none⟩) hg6).trans c2⟩ | exact ⟨(hbC.cell (p := ⟨g, 0, none⟩) hg6).trans c0, (hbC.cell (p := ⟨g, 1, none⟩) hg6).trans c1, (hbC.cell (p := ⟨g, 2, none⟩) hg6).trans c2⟩)
    ((first | (go_at_call 23; refine (some_any _ _ _ _ _).mono ?_; rintro e w7 ⟨rfl, hb7⟩; have hbB : Below w6.heap.size w6 w7 := ((below_box (w := w6) (Obj.cells #[.int .i64 1] 3)).drew).trans (hb7.mono (by simp)); have hz7 : w6.heap.size < w7.heap.size := (by have := hb7.size; simp at this; omega); have hr7 : RdI .i64 w7 w7.heap.size (some ⟨w6.heap.size, 0, none⟩) 1 1 [1] := ⟨((Rd.new w6 [.int .i64 1] 3).keep (w' := w7) fun p hp => hb7.cell (by simpa using hp)).more (by omega), Nat.le_refl _, by unfold maxLen; omega⟩) | (go_at_call 13; refine (same_any (.agg #[.bool false, .int .u8 2, .slice A3 1 c3]) (.agg #[.bool false, .int .u8 2, .slice (some ⟨w6.heap.size, 0, none⟩) 1 1]) ⟨false, 2, [1]⟩ ⟨false, 2, [1]⟩ w7 w6.heap.size w7.heap.size ⟨A3, 1, c3, rfl, hr6.below hbB⟩ ⟨_, 1, 1, rfl, hr7⟩ (by omega) (Nat.le_refl _)).mono ?_; rintro e w8 ⟨rfl, hb8⟩; have hbC : Below w6.heap.size w6 w8 := hbB.trans (hb8.mono hbB.size))))
  rw [show sameB ⟨false, 2, [1]⟩ ⟨false, 2, [1]⟩ = true from by decide +kernel]
  go_wp2_with fail
  go_ret
  exact ⟨rfl, hbel6.trans (hbC.mono hbel6.size)⟩

/-- are terms more than are gone through? -/
def greatN (ts : List TermD) : Nat := (ts.map fun t => 1 + min t.vars.length 5000).sum
def greatB (ts : List TermD) : Bool := decide (5000 < greatN ts)
theorem greatN_snoc (ts : List TermD) (t : TermD) : greatN (ts ++ [t]) = greatN ts + (1 + min t.vars.length 5000) := by simp [greatN]
theorem greatN_le (ts : List TermD) : greatN ts ≤ 5001 * ts.length := by
  induction ts with
  | nil => simp [greatN]
  | cons t ts ih =>
    have : greatN (t :: ts) = (1 + min t.vars.length 5000) + greatN ts := by simp [greatN]
    rw [this, List.length_cons]
    omega
theorem le_sum_of_mem {l : List Nat} {x : Nat} (h : x ∈ l) : x ≤ l.sum := by
  induction l with
  | nil => simp at h
  | cons y l ih =>
    rw [List.sum_cons]
    rcases List.mem_cons.1 h with rfl | h
    · omega
    · have := ih h; omega
/-- where they are not, none of them has many variables -/
theorem great_vars {ts : List TermD} (h : greatB ts = false) : ∀ t ∈ ts, t.vars.length ≤ 5000 := by
  unfold greatB at h
  rw [decide_eq_false_iff_not] at h
  intro t ht
  have : 1 + min t.vars.length 5000 ≤ greatN ts := le_sum_of_mem (List.mem_map.2 ⟨t, ht, rfl⟩)
  omega
theorem great_sum {ts : List TermD} (h : greatB ts = false) : (joinVs ts).length ≤ 5000 := by
  have h1 := great_vars h
  unfold greatB at h
  rw [decide_eq_false_iff_not] at h
  have : (joinVs ts).length ≤ greatN ts := by
    clear h
    induction ts with
    | nil => simp [joinVs]
    | cons t ts ih =>
      have e1 : joinVs (t :: ts) = t.vars ++ joinVs ts := by simp [joinVs]
      have e2 : greatN (t :: ts) = (1 + min t.vars.length 5000) + greatN ts := by simp [greatN]
      have h2 := h1 t (by simp)
      have h3 := ih fun x hx => h1 x (List.mem_cons_of_mem _ hx)
      rw [e1, e2, List.length_append]
      omega
  omega

set_option maxHeartbeats 1000000 in
theorem great_any (A : Option Addr) (n c : Nat) (ts : List TermD) (w : World) (hr : TermsV w w.heap.size A n c ts) (hn : n * 32 ≤ 140737488355328) :
    Calls Try.prog 7 #[.slice A n c] w fun e w' => e = .returned (.bool (greatB ts)) ∧ Below w.heap.size w w' := by
  have hmn := @run_min2 Try.prog
  obtain ⟨hlen, hnc, hcm, hat⟩ := hr
  have Hlen := Lib.hid hlen
  have Hat := Lib.hid hat
  clear hlen hat
  unfold maxLen at hcm
  go_enter Try.func7, Try.ntmps7
  go_wp2_with fail
  go_loopg [3, 5, 8] n (fun g s _ i wr => ∃ k : Nat, k ≤ n ∧ g = n - k ∧ i = .int .i64 k ∧ s = .int .i64 (greatN (ts.take k) : Nat) ∧ Below w.heap.size w wr)
  case atStart => exact ⟨0, Nat.zero_le _, rfl, rfl, rfl, Below.refl _ _⟩
  case round =>
    obtain ⟨k, hk, rfl, rfl, rfl, hbel⟩ := hrel
    by_cases hlt : k < n
    · obtain ⟨b, off, rfl, hb, hcell⟩ := Hat.out (by omega)
      have hk' : k < ts.length := by rw [Hlen.out]; exact hlt
      obtain ⟨A', n', c', e0, e1, e2, hr'⟩ := (hcell k hk').keep hb (fun q hq => hbel.cell hq)
      have hstep : (greatN (ts.take (k + 1)) : Int) = (greatN (ts.take k) : Int) + (1 + min (n' : Int) 5000) := by
        rw [List.take_succ_eq_append_getElem hk', greatN_snoc, hr'.len]; omega
      have Hstep := Lib.hid hstep
      have g1 : greatN (ts.take k) ≤ 5001 * k := by
        have := greatN_le (ts.take k)
        rw [List.length_take] at this
        have h2 : 5001 * min k ts.length ≤ 5001 * k := by omega
        omega
      have g2 : n' ≤ 9223372036854775807 := Nat.le_trans hr'.2.1 hr'.2.2
      clear hr' hcell hstep
      generalize greatN (ts.take k) = S at g1 Hstep ⊢
      have g3 : (min (n' : Int) 5000) ≤ 5000 := by omega
      have g4 : 0 ≤ (min (n' : Int) 5000) := by omega
      have g5 : (S : Int) ≤ 5001 * 4398046511104 := by omega
      go_wp2_with fail
      go_roundg (n - (k + 1))
      case measure => omega
      case rel => exact ⟨k + 1, by omega, rfl, by go_num, by rw [Hstep.out], hbel.alloc hbel.size _⟩
    · have HF : Hid (decide ((5000 : Int) < (greatN (ts.take k) : Nat)) = greatB ts) := by
        show _ = _
        rw [List.take_of_length_le (by rw [Hlen.out]; omega)]
        unfold greatB
        rw [Bool.eq_iff_iff]; simp; omega
      go_wp2_with fail
      go_ret
      exact ⟨ret_bool HF.out, hbel⟩

end Go.Proofs.Ytbccnfgceabopaa
