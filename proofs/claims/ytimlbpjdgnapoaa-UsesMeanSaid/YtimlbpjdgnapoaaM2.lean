/- Texts of this claim, laid one behind the other: TermC, TermD, TermE, TermF. -/
import Derived.Test.YtimlbpjdgnapoaaShelf
import Derived.Test.YtimlbpjdgnapoaaM1
import Derived.Sort.OwnSortedInts
import Derived.Lib.OwnBridge
import Derived.Shelf.SlicesE.Clone
/- The contract of term.clean: a term with variables in order, each once. -/
namespace Go.Proofs.Ytimlbpjdgnapoaa
set_option linter.unusedVariables false
set_option linter.unusedSimpArgs false
open Go.RowKit Go.Sort


theorem compactUpTo_le (d : Array Int) : ∀ m, (Lib.compactUpTo d m).length ≤ m
  | 0 => by simp [Lib.compactUpTo]
  | m + 1 => by
    rw [Lib.compactUpTo_succ, List.length_append]
    have := compactUpTo_le d m
    split <;> simp <;> omega
theorem compact_le (l : List Int) : (Lib.compact l).length ≤ l.length := compactUpTo_le _ _

set_option maxHeartbeats 400000 in
theorem clean_any (tc : Int) (A : Option Addr) (n cp : Nat) (vs : List Int) (w : World) (B : Nat) (hr : RdI .i64 w B A n cp vs) (hB : B ≤ w.heap.size) (hbig : n * 8 ≤ 140737488355328) :
    Calls Try.prog 73 #[.int .u8 tc, .slice A n cp] w (RetT (cleanT tc vs) w) := by
  have hlen := hr.len
  have Hlen := Lib.hid hlen
  clear hlen
  by_cases h : tc = 3 ∨ vs = []
  · have hc : cleanT tc vs = ⟨false, tc, []⟩ := by unfold cleanT; rw [if_pos h]
    rw [hc]
    have hcase : (tc == 3) = true ∨ ((tc == 3) = false ∧ n = 0) := by
      by_cases h3 : tc = 3
      · exact .inl (by simp [h3])
      · refine .inr ⟨by simp [h3], ?_⟩
        rcases h with h | h
        · exact absurd h h3
        · rw [← Hlen.out, h]; rfl
    clear h hc
    have hbel : Below w.heap.size w (w.alloc (Obj.cells #[.bool false, .int .u8 tc, .slice none 0 0] 37)) := (Below.refl _ _).alloc (Nat.le_refl _) _
    rcases hcase with h | ⟨h, h0⟩
    · go_enter Try.func73, Try.ntmps73
      go_wp2_with fail
      exact bodyPost_ret (v := .agg #[.bool false, .int .u8 tc, .slice none 0 0]) (by simp [results, Try.results73, go_sem]) rfl ⟨none, 0, 0, rfl, RdI.nil, hbel⟩
    · subst h0
      go_enter Try.func73, Try.ntmps73
      go_wp2_with fail
      exact bodyPost_ret (v := .agg #[.bool false, .int .u8 tc, .slice none 0 0]) (by simp [results, Try.results73, go_sem]) rfl ⟨none, 0, 0, rfl, RdI.nil, hbel⟩
  · have hc : cleanT tc vs = ⟨false, tc, sset vs⟩ := by unfold cleanT; rw [if_neg h]
    rw [hc]
    have h1 : (tc == 3) = false := by simp; exact fun e => h (.inl e)
    have hn0 : n ≠ 0 := fun e => h (.inr (List.eq_nil_of_length_eq_zero (by rw [Hlen.out, e])))
    have h2 : ((n : Int) == 0) = false := by simp; omega
    clear h hc
    obtain ⟨b, off, rfl, hb, hcell⟩ := hr.at_ (by omega)
    have hnc := hr.2.1
    have hcm := hr.2.2
    have hclone := Try.slices_Clone_int b off n cp vs (w.alloc (Obj.cells #[.bool false, .int .u8 0, .slice none 0 0] 37)) (by rw [Hlen.out]; exact Nat.le_refl _) hbig (fun j hj => by
      rw [World.cell?_alloc_lt _ _ _ (by show b < w.heap.size; omega), hcell j hj]
      simp [List.getD, hj])
    have Hclone := Lib.hid hclone
    clear hclone hcell
    go_enter Try.func73, Try.ntmps73
    go_wp2_with fail
    refine Hclone.out.mono ?_
    rintro e w1 ⟨v', rfl, hown, hne, hb1⟩
    rw [show vs.take n = vs from List.take_of_length_le (by rw [Hlen.out]; exact Nat.le_refl _)] at hown
    obtain ⟨g, cap, rfl, hg1, hg2, hgc, hgm, hl, hH⟩ := Lib.holds_of_ownsRow hown hne
    simp only [World.size_alloc] at hg1 hown hb1
    have hself : Blk w1 w.heap.size 37 #[.bool false, .int .u8 0, .slice none 0 0] := by
      show w1.heap[w.heap.size]? = _
      rw [hb1.block _ (Nat.lt_succ_self _)]
      exact heap_alloc_new w _
    have hbel1 : Below w.heap.size w w1 := ((Below.refl _ _).alloc (Nat.le_refl _) _).trans (hb1.mono (Nat.le_succ _))
    clear hb1 hne Hclone hr
    have hsort := Try.slices_Sort_int g 0 cap vs w1 hH hg2 (by rw [hl]; omega)
    rw [hl] at hsort
    have Hsort := Lib.hid hsort
    clear hsort hH
    go_wp2_with fail
    refine Hsort.out.mono ?_
    rintro e w2 ⟨rfl, q, os, hw2⟩
    have hls : (vs.mergeSort fun x y => decide (x ≤ y)).length = vs.length := List.length_mergeSort _
    have hown2 : w2.ownsRow (w.heap.size + 1) 3 1 (.slice (some ⟨g, 0, none⟩) vs.length cap) vs.length ((vs.mergeSort fun x y => decide (x ≤ y)).map (Value.int .i64)) := by
      rcases hown.2 with ⟨e0, _⟩ | ⟨g', cap', cur, e0, hb', hgg, hn', hm', hs', ht'⟩
      · cases e0
      · injection e0 with e1 _ e3
        injection e1 with e1
        injection e1 with e1
        subst e1; subst e3
        rw [hw2]
        exact ownsRow_sortedI hls hg1 hgg (by rw [hl]; exact hgc) hgm hs'
    have hgb : w1.grownBy w2 (some g) := by rw [hw2]; exact grownBy_sortedI _
    have hbel2 := hbel1.grown hgb hbel1.size (fun k hk => by injection hk with hk; omega)
    have hself2 := hself.grown hgb (by simp; omega)
    have hg3 : g < w2.heap.size := Nat.lt_of_lt_of_le hg2 hgb.size
    clear hw2 hown hself hbel1 hgb hg2 Hsort
    rw [hl] at hown2 hls
    have hH2 : Holds (Value.int .i64) w2 g 0 (vs.mergeSort fun x y => decide (x ≤ y)).toArray := by
      obtain ⟨g2, cap2, e2, _, _, _, _, _, hH2⟩ := Lib.holds_of_ownsRow hown2 (by simp)
      injection e2 with e2 _ _
      injection e2 with e2
      injection e2 with e2
      subst e2
      exact hH2
    have hcomp := Try.slices_Compact_int g 0 cap (vs.mergeSort fun x y => decide (x ≤ y)) w2 hH2 (by rw [hls]; omega) (by rw [hls]; exact hgc)
    rw [hls] at hcomp
    have hk : (sset vs).length ≤ n := by have := compact_le (vs.mergeSort fun x y => decide (x ≤ y)); rw [hls] at this; exact this
    have hcomp' : Calls Try.prog 63 #[.slice (some ⟨g, 0, none⟩) n cap] w2 fun e w' => e = .returned (.slice (some ⟨g, 0, none⟩) (sset vs).length cap) ∧
        (w'.ownsRow (w.heap.size + 1) 3 1 (.slice (some ⟨g, 0, none⟩) (sset vs).length cap) (sset vs).length ((sset vs).map (Value.int .i64)) ∧ Below w.heap.size w w' ∧ Blk w' w.heap.size 37 #[.bool false, .int .u8 0, .slice none 0 0]) := by
      refine hcomp.mono ?_
      rintro e w3 ⟨rfl, q3, hw3⟩
      refine ⟨rfl, ?_, ?_, ?_⟩
      · have h3 := Lib.ownsRow_putRow (q := q3) (k := (sset vs).length) hown2 (ys := Lib.compact (vs.mergeSort fun x y => decide (x ≤ y)) ++ List.replicate (n - (Lib.compact (vs.mergeSort fun x y => decide (x ≤ y))).length) 0) (by
          rw [List.length_append, List.length_replicate]
          show (sset vs).length + (n - (sset vs).length) = n
          omega) hk
        have etake : (Lib.compact (vs.mergeSort fun x y => decide (x ≤ y)) ++ List.replicate (n - (Lib.compact (vs.mergeSort fun x y => decide (x ≤ y))).length) 0).take (sset vs).length = sset vs := List.take_left' rfl
        rw [etake] at h3
        rw [hw3]
        exact h3
      · rw [hw3]
        exact Lib.below_putRow hbel2 (by omega)
      · refine hself2.below (B := w.heap.size + 1) ?_ (Nat.lt_succ_self _)
        rw [hw3]
        exact Lib.below_putRow (Below.refl _ _) hg1
    have Hcomp := Lib.hid hcomp'
    clear hcomp hcomp' hH2 hown2 hself2 hbel2
    go_wp2_with fail
    refine Hcomp.out.mono ?_
    rintro e w3 ⟨rfl, hown3, hbel3, hself3⟩
    have c0 : w3.cell? ⟨w.heap.size, 0, none⟩ = some (.bool false) := hself3.cell 0
    have c1 : w3.cell? ⟨w.heap.size, 1, none⟩ = some (.int .u8 0) := hself3.cell 1
    have c2 : w3.cell? ⟨w.heap.size, 2, none⟩ = some (.slice none 0 0) := hself3.cell 2
    have f0 := hself3.frozen 0
    have f1 := hself3.frozen 1
    have f2 := hself3.frozen 2
    clear Hcomp
    go_wp2_with fail
    have hs := hself3.set3 (.bool false) (.int .u8 tc) (.slice (some ⟨g, 0, none⟩) (sset vs).length cap)
    have ho := ownsRow_setCell_below (ownsRow_setCell_below (ownsRow_setCell_below hown3 (a := ⟨w.heap.size, 0, none⟩) (Nat.lt_succ_self _) (.bool false)) (a := ⟨w.heap.size, 1, none⟩) (Nat.lt_succ_self _) (.int .u8 tc)) (a := ⟨w.heap.size, 2, none⟩) (Nat.lt_succ_self _) (.slice (some ⟨g, 0, none⟩) (sset vs).length cap)
    have hb3 := ((hbel3.setCell (p := ⟨w.heap.size, 0, none⟩) (Nat.le_refl _) (.bool false)).setCell (p := ⟨w.heap.size, 1, none⟩) (Nat.le_refl _) (.int .u8 tc)).setCell (p := ⟨w.heap.size, 2, none⟩) (Nat.le_refl _) (.slice (some ⟨g, 0, none⟩) (sset vs).length cap)
    generalize (((w3.setCell ⟨w.heap.size, 0, none⟩ (.bool false)).setCell ⟨w.heap.size, 1, none⟩ (.int .u8 tc)).setCell ⟨w.heap.size, 2, none⟩ (.slice (some ⟨g, 0, none⟩) (sset vs).length cap)) = W3 at hs ho hb3 ⊢
    have d0 : W3.cell? ⟨w.heap.size, 0, none⟩ = some (.bool false) := hs.cell 0
    have d1 : W3.cell? ⟨w.heap.size, 1, none⟩ = some (.int .u8 tc) := hs.cell 1
    have d2 : W3.cell? ⟨w.heap.size, 2, none⟩ = some (.slice (some ⟨g, 0, none⟩) (sset vs).length cap) := hs.cell 2
    exact bodyPost_ret (v := .agg #[.bool false, .int .u8 tc, .slice (some ⟨g, 0, none⟩) (sset vs).length cap]) (by simp [results, Try.results73, go_sem, d0, d1, d2]) rfl ⟨_, _, _, rfl, RdI.of_own ho, hb3⟩

end Go.Proofs.Ytimlbpjdgnapoaa

/- Contracts of slices.IndexFunc, ContainsFunc, Clone and DeleteFunc at terms; may. -/
namespace Go.Proofs.Ytimlbpjdgnapoaa
set_option linter.unusedVariables false
set_option linter.unusedSimpArgs false
open Go.RowKit

/-- a function of a term that answers whether p, and writes nothing that was there -/
def Enters (F : Nat) : Prop := ∀ (args : Array Value) (w : World), (callFunc F args).run Try.prog w = .ok (.enter F args) w
theorem enters_may : Enters 83 := fun args w => by kernel_rfl
theorem enters_join : Enters 72 := fun args w => by kernel_rfl
theorem enters_sum : Enters 74 := fun args w => by kernel_rfl
def Pred (F : Nat) (p : TermD → Bool) : Prop :=
  ∀ (A : Option Addr) (n c : Nat) (t : TermD) (w : World) (B : Nat), RdI .i64 w B A n c t.vars → B ≤ w.heap.size →
    Calls Try.prog F #[.agg #[.bool t.never, .int .u8 t.c, .slice A n c]] w fun e w' => e = .returned (.bool (p t)) ∧ Below w.heap.size w w'

theorem pred_may : Pred 83 (fun t => !mayB t) := by
  intro A n c t w B hr hB
  obtain ⟨nv, tc, vs⟩ := t
  have hbel : Below w.heap.size w (w.alloc (Obj.cells #[.bool nv, .int .u8 tc, .slice A n c] 37)) := (Below.refl _ _).alloc (Nat.le_refl _) _
  have hr1 : RdI .i64 (w.alloc (Obj.cells #[.bool nv, .int .u8 tc, .slice A n c] 37)) B A n c vs := hr.below ((Below.refl B w).alloc hB _)
  have hne : (mayE ⟨nv, tc, vs⟩ != 0) = !mayB ⟨nv, tc, vs⟩ := by
    cases h : mayB ⟨nv, tc, vs⟩
    · rw [mayE_no h]; rfl
    · rw [mayE_yes h]; rfl
  have Hne := Lib.hid hne
  clear hne
  go_enter Try.func83, Try.ntmps83
  go_wp2_with fail
  refine (may_any _ ⟨nv, tc, vs⟩ _ B ⟨A, n, c, rfl, hr1⟩ (by simp; omega)).mono ?_; rintro e w1 ⟨rfl, hb1⟩
  have hbel1 := hbel.trans (hb1.mono (by simp))
  clear hb1
  go_wp2_with fail
  go_ret
  exact ⟨ret_bool Hne.out, hbel1⟩

def idxF (p : TermD → Bool) (ts : List TermD) : Int := match ts.findIdx? p with
  | some i => (i : Int)
  | none => -1

theorem idxF_none {p : TermD → Bool} {ts : List TermD} (h : ∀ j (h : j < ts.length), p ts[j] = false) : idxF p ts = -1 := by
  have : ts.findIdx? p = none := by
    rw [List.findIdx?_eq_none_iff]
    intro x hx
    obtain ⟨j, hj, rfl⟩ := List.getElem_of_mem hx
    exact h j hj
  unfold idxF
  rw [this]
theorem idxF_some {p : TermD → Bool} {ts : List TermD} {k : Nat} (hk : k < ts.length) (h : ∀ j (h : j < ts.length), j < k → p ts[j] = false) (h1 : p ts[k] = true) : idxF p ts = k := by
  have : ts.findIdx? p = some k := by
    rw [List.findIdx?_eq_some_iff_getElem]
    exact ⟨hk, h1, fun j hj => by rw [h j (by omega) hj]; simp⟩
  unfold idxF
  rw [this]

set_option maxHeartbeats 1000000 in
theorem index_any (F : Nat) (p : TermD → Bool) (hf : Enters F) (hp : Pred F p) (A : Option Addr) (n c : Nat) (ts : List TermD) (w : World) (hr : TermsV w w.heap.size A n c ts) :
    Calls Try.prog 84 #[.slice A n c, .func (.func F) #[] #[]] w fun e w' => e = .returned (.int .i64 (idxF p ts)) ∧ Below w.heap.size w w' := by
  obtain ⟨hlen, hnc, hcm, hat⟩ := hr
  have Hlen := Lib.hid hlen
  have Hp := Lib.hid hp
  have Hat := Lib.hid hat
  clear hlen hp hat
  unfold maxLen at hcm
  unfold Enters at hf
  go_enter Try.func84, Try.ntmps84
  go_wp2_with fail
  go_loopg [5, 8] n (fun g _ i wr => ∃ k : Nat, k ≤ n ∧ g = n - k ∧ i = .int .i64 k ∧ (∀ j (h : j < ts.length), j < k → p ts[j] = false) ∧ Below w.heap.size w wr)
  case atStart => exact ⟨0, Nat.zero_le _, rfl, rfl, fun j _ h => absurd h (by omega), Below.refl _ _⟩
  case round =>
    obtain ⟨k, hk, rfl, rfl, hno, hbel⟩ := hrel
    have Hno := Lib.hid hno
    clear hno
    by_cases hlt : k < n
    · obtain ⟨b, off, rfl, hb, hcell⟩ := Hat.out (by omega)
      have hk' : k < ts.length := by rw [Hlen.out]; exact hlt
      have h1 := (hcell k hk').keep hb (fun q hq => hbel.cell hq)
      obtain ⟨A', n', c', e0, e1, e2, hr'⟩ := h1
      have Hr := Lib.hid hr'
      clear hr' hcell
      cases hpk : p ts[k]
      · have Hpk := Lib.hid hpk
        clear hpk
        go_wp2_with fail
        refine (Hp.out A' n' c' _ _ _ Hr.out hbel.size).mono ?_; rintro e w1 ⟨rfl, hb1⟩
        rw [Hpk.out]
        go_wp2_with fail
        go_roundg (n - (k + 1))
        case measure => omega
        case rel =>
          refine ⟨k + 1, by omega, rfl, by go_num, fun j hj hjk => ?_, stepB hbel hb1⟩
          rcases Nat.lt_or_ge j k with h | h
          · exact Hno.out j hj h
          · have : j = k := by omega
            subst this
            exact Hpk.out
      · have Hpk := Lib.hid hpk
        clear hpk
        have HF : Hid ((k : Int) = idxF p ts) := (idxF_some hk' Hno.out Hpk.out).symm
        go_wp2_with fail
        refine (Hp.out A' n' c' _ _ _ Hr.out hbel.size).mono ?_; rintro e w1 ⟨rfl, hb1⟩
        rw [Hpk.out]
        go_wp2_with fail
        go_ret
        exact ⟨ret_int HF.out, stepB hbel hb1⟩
    · have HF : Hid (-1 = idxF p ts) := (idxF_none (fun j hj => Hno.out j hj (by have := Hlen.out; omega))).symm
      go_wp2_with fail
      go_ret
      exact ⟨ret_int HF.out, hbel⟩

theorem contains_any (F : Nat) (p : TermD → Bool) (hf : Enters F) (hp : Pred F p) (A : Option Addr) (n c : Nat) (ts : List TermD) (w : World) (hr : TermsV w w.heap.size A n c ts) :
    Calls Try.prog 82 #[.slice A n c, .func (.func F) #[] #[]] w fun e w' => e = .returned (.bool (ts.any p)) ∧ Below w.heap.size w w' := by
  have hany : decide (0 ≤ idxF p ts) = ts.any p := by
    unfold idxF
    cases h : ts.findIdx? p with
    | none =>
      rw [List.findIdx?_eq_none_iff] at h
      have : ts.any p = false := by
        rw [List.any_eq_false]
        intro x hx
        rw [h x hx]; simp
      rw [this]; rfl
    | some k =>
      rw [List.findIdx?_eq_some_iff_getElem] at h
      obtain ⟨hk, h1, _⟩ := h
      have : ts.any p = true := List.any_eq_true.2 ⟨_, List.getElem_mem hk, h1⟩
      rw [this]; simp
  have Hany := Lib.hid hany
  clear hany
  go_enter Try.func82, Try.ntmps82
  go_wp2_with fail
  refine (index_any F p hf hp A n c ts _ hr).mono ?_; rintro e w1 ⟨rfl, hb1⟩
  go_wp2_with fail
  go_ret
  exact ⟨ret_bool Hany.out, hb1⟩

def allMay (ts : List TermD) : Bool := ts.all mayB
theorem mays_any (A : Option Addr) (n c : Nat) (ts : List TermD) (w : World) (hr : TermsV w w.heap.size A n c ts) :
    Calls Try.prog 69 #[.slice A n c] w fun e w' => e = .returned (.bool (allMay ts)) ∧ Below w.heap.size w w' := by
  have hH : (!ts.any fun t => !mayB t) = allMay ts := by
    unfold allMay
    rw [List.all_eq_not_any_not]
  have HH := Lib.hid hH
  clear hH
  go_enter Try.func69, Try.ntmps69
  go_wp2_with fail
  refine (contains_any _ _ enters_may pred_may A n c ts _ hr).mono ?_; rintro e w1 ⟨rfl, hb1⟩
  go_wp2_with fail
  go_ret
  exact ⟨ret_bool HH.out, hb1⟩

end Go.Proofs.Ytimlbpjdgnapoaa

/- Contracts of slices.Clone and slices.DeleteFunc at terms. -/
namespace Go.Proofs.Ytimlbpjdgnapoaa
set_option linter.unusedVariables false
set_option linter.unusedSimpArgs false
open Go.RowKit

def cloneRen : Go.Shelf.Ren := ⟨fun | 41 => 71 | n => n, fun | 22 => 84 | 23 => 37 | 4 => 4 | n => n, fun | n => n⟩
theorem cloneLays : Go.Proofs.SlLaysE0.n41 Try.prog cloneRen := {
  mixed := by kernel_rfl
  f41 := ⟨Try.f71.name, by decide, Try.func71.trans (congrArg some (by kernel_rfl))⟩
  t4 := Try.underlying4
  a4 := Try.isAgg4
  z4 := Try.sizeOf4
  v4 := Try.zeroValue4
  t22 := Try.underlying84
  a22 := Try.isAgg84
  z22 := Try.sizeOf84
  v22 := Try.zeroValue84 }
theorem termInfo : (Try.prog.info? 37).map (fun i => (i.zero, i.size, i.bytes)) = some (some (.agg #[.bool false, .int .u8 0, .slice none 0 0]), 3, 32) := by kernel_rfl

/-- three cells of a row read as a term, its variables below block B -/
def C3 (w : World) (B : Nat) (cs : List Value) (x : Nat) (t : TermD) : Prop :=
  ∃ A n c, cs[x * 3]? = some (.bool t.never) ∧ cs[x * 3 + 1]? = some (.int .u8 t.c) ∧ cs[x * 3 + 2]? = some (.slice A n c) ∧ RdI .i64 w B A n c t.vars
theorem C3.keep {w w' : World} {B : Nat} {cs : List Value} {x : Nat} {t : TermD} (h : C3 w B cs x t) (hk : ∀ p : Addr, p.block < B → w'.cell? p = w.cell? p) : C3 w' B cs x t := by
  obtain ⟨A, n, c, e0, e1, e2, hr⟩ := h
  exact ⟨A, n, c, e0, e1, e2, hr.keep hk⟩
theorem C3.more {w : World} {B B' : Nat} {cs : List Value} {x : Nat} {t : TermD} (h : C3 w B cs x t) (hB : B ≤ B') : C3 w B' cs x t := by
  obtain ⟨A, n, c, e0, e1, e2, hr⟩ := h
  exact ⟨A, n, c, e0, e1, e2, hr.more hB⟩

/-- the cells of a slice of terms, as a list -/
theorem TermsV.cells {w : World} {B : Nat} {b off : Nat} : ∀ (m : Nat) (ts : List TermD), m ≤ ts.length → (∀ i (h : i < ts.length), TermAt w B b (off + i * 3) ts[i]) →
    ∃ cs : List Value, cs.length = m * 3 ∧ (∀ j u, cs[j]? = some u → w.cell? ⟨b, off + j, none⟩ = some u) ∧ (∀ u ∈ cs, u.oneCell' = true) ∧ ∀ i (h : i < ts.length), i < m → C3 w B cs i ts[i]
  | 0, ts, _, _ => ⟨[], rfl, fun j u h => by simp at h, fun u h => by simp at h, fun i _ h => absurd h (by omega)⟩
  | m + 1, ts, hm, hat => by
    obtain ⟨cs, hl, hc, h1, h3⟩ := TermsV.cells m ts (by omega) hat
    obtain ⟨A, n, c, e0, e1, e2, hr⟩ := hat m (by omega)
    refine ⟨cs ++ [.bool ts[m].never, .int .u8 ts[m].c, .slice A n c], by simp [hl]; omega, fun j u hu => ?_, fun u hu => ?_, fun i hi him => ?_⟩
    · rw [List.getElem?_append] at hu
      split at hu
      · exact hc j u hu
      · rename_i hj
        have hj3 : j - cs.length < 3 := by
          have := (List.getElem?_eq_some_iff.1 hu).1
          simpa using this
        have : j = m * 3 ∨ j = m * 3 + 1 ∨ j = m * 3 + 2 := by omega
        rcases this with rfl | rfl | rfl
        · rw [hl, Nat.sub_self] at hu
          simp at hu
          rw [← hu]; exact e0
        · rw [hl, show m * 3 + 1 - m * 3 = 1 from by omega] at hu
          simp at hu
          rw [← hu, show off + (m * 3 + 1) = off + m * 3 + 1 from by omega]; exact e1
        · rw [hl, show m * 3 + 2 - m * 3 = 2 from by omega] at hu
          simp at hu
          rw [← hu, show off + (m * 3 + 2) = off + m * 3 + 2 from by omega]; exact e2
    · simp only [List.mem_append, List.mem_cons, List.not_mem_nil, or_false] at hu
      rcases hu with hu | rfl | rfl | rfl
      · exact h1 u hu
      · rfl
      · rfl
      · rfl
    · rcases Nat.lt_or_ge i m with h | h
      · obtain ⟨A', n', c', f0, f1, f2, hr'⟩ := h3 i hi h
        exact ⟨A', n', c', by rw [List.getElem?_append_left (by omega)]; exact f0, by rw [List.getElem?_append_left (by omega)]; exact f1, by rw [List.getElem?_append_left (by omega)]; exact f2, hr'⟩
      · have : i = m := by omega
        subst this
        refine ⟨A, n, c, ?_, ?_, ?_, hr⟩
        · rw [List.getElem?_append_right (by omega), hl, Nat.sub_self]; rfl
        · rw [List.getElem?_append_right (by omega), hl, show i * 3 + 1 - i * 3 = 1 from by omega]; rfl
        · rw [List.getElem?_append_right (by omega), hl, show i * 3 + 2 - i * 3 = 2 from by omega]; rfl

/-- a row of terms of the call's own -/
def OwnT (w : World) (base B : Nat) (v : Value) (n : Nat) (ts : List TermD) : Prop :=
  ts.length = n ∧ ∃ cs, w.ownsRow base 37 3 v n cs ∧ ∀ i (h : i < ts.length), C3 w B cs i ts[i]

/-- what Clone returns -/
def CloneT (ts : List TermD) (n : Nat) (w : World) (e : Ending) (w' : World) : Prop :=
  ∃ v, e = .returned v ∧ OwnT w' w.heap.size w.heap.size v n ts ∧ (v = .slice none 0 0 ∨ ∃ g c, v = .slice (some ⟨g, 0, none⟩) n c) ∧ Below w.heap.size w w'

set_option maxHeartbeats 400000 in
theorem clone_zero (a : Addr) (c : Nat) (w : World) :
    Calls Try.prog 71 #[.slice (some a) 0 c] w (CloneT [] 0 w) := by
  obtain ⟨i0, hi0, hz0, hz1, hz2⟩ := info_parts termInfo
  have hq := fun w a n c n' c' => Lib.run_eql_slice_nil (P := Try.prog) w 84 37 a n c n' c' Try.underlying84
  go_enter Try.func71, Try.ntmps71
  go_wp2_with (at_builtin; refine wpList_append_own _ rfl _ _ 84 rfl w.heap.size 37 i0 _ 3 32 Try.underlying84 hi0 hz0 hz1 hz2 rfl (by omega) _ 0 [] rfl (World.ownsRow_lit w #[] 0 (Nat.le_refl _) (Nat.zero_le _) rfl) a 0 c [] rfl rfl (fun j u h => by simp at h) (fun u h => by simp at h) (Nat.zero_le _) (by omega) (by simp) ?_; intro v1 w1 hown1 hg1 hnil)
  go_ret
  refine ⟨v1, rfl, ⟨rfl, [], hown1, fun i h => absurd h (by simp)⟩, ?_, ((Below.refl _ _).alloc (Nat.le_refl _) _).grown hg1 (by simp) (fun k hk => by have hk' : some w.heap.size = some k := hk; injection hk' with h; omega)⟩
  rcases hown1.2 with ⟨e0, _⟩ | ⟨g, cap, cur, rfl, _⟩
  · exact .inl e0
  · exact .inr ⟨g, cap, rfl⟩

theorem clone_any (A : Option Addr) (n c : Nat) (ts : List TermD) (w : World) (hr : TermsV w w.heap.size A n c ts) (hbig : n * 32 ≤ 140737488355328) :
    Calls Try.prog 71 #[.slice A n c] w (CloneT ts n w) := by
  obtain ⟨hlen, hnc, hcm, hat⟩ := hr
  rcases A with _ | ⟨b, off, sp⟩
  · have hn : n = 0 := by
      rcases Nat.eq_zero_or_pos n with h | h
      · exact h
      · obtain ⟨_, _, e, _⟩ := hat h
        cases e
    subst hn
    have hts : ts = [] := List.eq_nil_of_length_eq_zero hlen
    subst hts
    refine (AnyE.slices_Clone_nil cloneLays 0 c w).mono ?_
    rintro e w1 ⟨rfl, rfl⟩
    exact ⟨_, rfl, ⟨rfl, [], World.ownsRow_nil _ _ _ _, fun i h => absurd h (by simp)⟩, .inl rfl, Below.refl _ _⟩
  · obtain ⟨i0, hi0, hz0, hz1, hz2⟩ := info_parts termInfo
    rcases Nat.eq_zero_or_pos n with h0 | h0
    · subst h0
      have hts : ts = [] := List.eq_nil_of_length_eq_zero hlen
      subst hts
      exact clone_zero _ c w
    · obtain ⟨b', off', e, hb, hcell⟩ := hat h0
      injection e with e
      injection e with e1 e2 e3
      subst e1; subst e2; subst e3
      obtain ⟨cs, hl, hc, h1, h3⟩ := TermsV.cells n ts (by omega) hcell
      refine (AnyE.slices_Clone cloneLays i0 _ 3 32 hi0 hz0 hz1 hz2 rfl (by omega) Try.sizeOf37 b off n c cs w hl (Nat.le_trans hnc hcm) hbig hc h1).mono ?_
      rintro e w1 ⟨v', rfl, hown, hne, hb1⟩
      refine ⟨v', rfl, ⟨hlen, cs, hown, fun i hi => (h3 i hi (by omega)).keep fun q hq => hb1.cell hq⟩, .inr ?_, hb1⟩
      rcases hown.2 with ⟨e0, _⟩ | ⟨g, cap, cur, rfl, _⟩
      · exact absurd e0 hne
      · exact ⟨g, cap, rfl⟩

theorem OwnT.form {w : World} {base B : Nat} {g : Nat} {n m c : Nat} {ts : List TermD} (h : OwnT w base B (.slice (some ⟨g, 0, none⟩) m c) n ts) : m = n ∧ base ≤ g ∧ g < w.heap.size ∧ n ≤ c ∧ c ≤ maxLen := by
  obtain ⟨_, cs, hown, _⟩ := h
  rcases hown.2 with ⟨e0, _⟩ | ⟨g', cap, cur, e0, hb, hg, hn, hm, _⟩
  · cases e0
  · injection e0 with e1 e2 e3
    injection e1 with e1
    injection e1 with e1
    subst e1; subst e2; subst e3
    exact ⟨rfl, hb, (Array.getElem?_eq_some_iff.1 hg).1, hn, hm⟩
theorem OwnT.terms {w : World} {base B : Nat} {A : Option Addr} {n m c : Nat} {ts : List TermD} (h : OwnT w base B (.slice A m c) n ts) (hB : B ≤ w.heap.size) : m = n ∧ TermsV w w.heap.size A n c ts := by
  obtain ⟨hl, cs, hown, h3⟩ := h
  rcases hown.2 with ⟨e0, hn⟩ | ⟨g, cap, cur, e0, hb, hg, hn, hm, hs, ht⟩
  · injection e0 with e1 e2 e3
    subst e1; subst e2; subst e3
    subst hn
    exact ⟨rfl, hl, Nat.le_refl _, Nat.zero_le _, fun h => absurd h (by omega)⟩
  · injection e0 with e1 e2 e3
    subst e1; subst e2; subst e3
    refine ⟨rfl, hl, hn, hm, fun _ => ⟨g, 0, rfl, (Array.getElem?_eq_some_iff.1 hg).1, fun i hi => ?_⟩⟩
    obtain ⟨A', n', c', f0, f1, f2, hr⟩ := h3 i hi
    refine ⟨A', n', c', ?_, ?_, ?_, hr.more hB⟩
    · rw [show 0 + i * 3 = i * 3 from by omega, hown.cellAt _ (by omega)]; exact f0
    · rw [show 0 + i * 3 + 1 = i * 3 + 1 from by omega, hown.cellAt _ (by omega)]; exact f1
    · rw [show 0 + i * 3 + 2 = i * 3 + 2 from by omega, hown.cellAt _ (by omega)]; exact f2

/-- what DeleteFunc returns -/
def DelT (ts : List TermD) (base B : Nat) (w : World) (e : Ending) (w' : World) : Prop :=
  ∃ v m, e = .returned v ∧ ((v = .slice none 0 0 ∧ m = 0) ∨ ∃ g c, v = .slice (some ⟨g, 0, none⟩) m c) ∧ OwnT w' base B v m ts ∧ Below base w w'

theorem filter_take_succ (p : TermD → Bool) (ts : List TermD) (j : Nat) (hj : j < ts.length) : (ts.take (j + 1)).filter p = (ts.take j).filter p ++ (if p ts[j] then [ts[j]] else []) := by
  rw [List.take_succ_eq_append_getElem hj, List.filter_append]
  congr 1
  by_cases h : p ts[j] <;> simp [h]

end Go.Proofs.Ytimlbpjdgnapoaa

/- The contract of slices.DeleteFunc at terms. -/
namespace Go.Proofs.Ytimlbpjdgnapoaa
set_option linter.unusedVariables false
set_option linter.unusedSimpArgs false
open Go.RowKit

theorem C3.cut {w : World} {B : Nat} {cs : List Value} {x m : Nat} {t : TermD} (h : C3 w B cs x t) (hx : x < m) : C3 w B (cs.take (m * 3)) x t := by
  obtain ⟨A, n, c, e0, e1, e2, hr⟩ := h
  exact ⟨A, n, c, by rw [List.getElem?_take, if_pos (by omega)]; exact e0, by rw [List.getElem?_take, if_pos (by omega)]; exact e1, by rw [List.getElem?_take, if_pos (by omega)]; exact e2, hr⟩
theorem C3.congr {w : World} {B : Nat} {cs cs' : List Value} {x : Nat} {t : TermD} (h : C3 w B cs x t) (he : ∀ k, x * 3 ≤ k → k < x * 3 + 3 → cs'[k]? = cs[k]?) : C3 w B cs' x t := by
  obtain ⟨A, n, c, e0, e1, e2, hr⟩ := h
  exact ⟨A, n, c, by rw [he _ (by omega) (by omega)]; exact e0, by rw [he _ (by omega) (by omega)]; exact e1, by rw [he _ (by omega) (by omega)]; exact e2, hr⟩
theorem C3.cells {w : World} {B base : Nat} {e : TypeId} {g n c : Nat} {cs : List Value} {x : Nat} {t : TermD} (h : C3 w B cs x t) (hown : w.ownsRow base e 3 (.slice (some ⟨g, 0, none⟩) n c) n cs) (hx : x < n) :
    ∃ A m d, w.cell? ⟨g, x * 3, none⟩ = some (.bool t.never) ∧ w.cell? ⟨g, x * 3 + 1, none⟩ = some (.int .u8 t.c) ∧ w.cell? ⟨g, x * 3 + 2, none⟩ = some (.slice A m d) ∧ RdI .i64 w B A m d t.vars := by
  obtain ⟨A, m, d, e0, e1, e2, hr⟩ := h
  exact ⟨A, m, d, by rw [hown.cellAt _ (by omega)]; exact e0, by rw [hown.cellAt _ (by omega)]; exact e1, by rw [hown.cellAt _ (by omega)]; exact e2, hr⟩

set_option maxHeartbeats 1000000 in
theorem delete_any (F : Nat) (p : TermD → Bool) (hf : Enters F) (hp : Pred F p) (base B n : Nat) (v : Value) (ts : List TermD) (w : World) (hown : OwnT w base B v n ts) (hB : B ≤ base) (hbase : base ≤ w.heap.size)
    (hform : v = .slice none 0 0 ∨ ∃ g c, v = .slice (some ⟨g, 0, none⟩) n c) :
    Calls Try.prog 70 #[v, .func (.func F) #[] #[]] w (DelT (ts.filter fun t => !p t) base B w) := by
  have Hown := Lib.hid hown
  have hlen := hown.1
  have Hlen := Lib.hid hlen
  have Hp := Lib.hid hp
  clear hlen hp
  -- is there one to be deleted?
  cases hfi : ts.findIdx? p with
  | none =>
    have hnone : ∀ t ∈ ts, p t = false := by
      intro t ht
      rw [List.findIdx?_eq_none_iff] at hfi
      exact hfi t ht
    have hfil : (ts.filter fun t => !p t) = ts := by
      rw [List.filter_eq_self]
      intro t ht
      rw [hnone t ht]; rfl
    have hidx : idxF p ts = -1 := by unfold idxF; rw [hfi]
    rw [hfil]
    have Hidx := Lib.hid hidx
    clear hfil hidx hnone hfi
    rcases hform with rfl | ⟨g, c, rfl⟩
    · have ht := (hown.terms (A := none) (m := 0) (c := 0) (Nat.le_trans hB hbase)).2
      have hn := (hown.terms (A := none) (m := 0) (c := 0) (Nat.le_trans hB hbase)).1
      subst hn
      clear hown
      go_enter Try.func70, Try.ntmps70
      go_wp2_with fail
      refine (index_any F p hf Hp.out _ _ _ ts _ ht).mono ?_; rintro e w1 ⟨rfl, hb1⟩
      rw [Hidx.out]
      go_wp2_with fail
      go_ret
      exact ⟨_, 0, rfl, .inl ⟨rfl, rfl⟩, ⟨Hlen.out, [], World.ownsRow_nil _ _ _ _, fun i hi => absurd hi (by have := Hlen.out; omega)⟩, hb1.mono hbase⟩
    · have ht := (hown.terms (Nat.le_trans hB hbase)).2
      clear hown
      go_enter Try.func70, Try.ntmps70
      go_wp2_with fail
      refine (index_any F p hf Hp.out _ _ _ ts _ ht).mono ?_; rintro e w1 ⟨rfl, hb1⟩
      rw [Hidx.out]
      go_wp2_with fail
      go_ret
      obtain ⟨_, cs, ho, h3⟩ := Hown.out
      exact ⟨_, n, rfl, .inr ⟨g, c, rfl⟩, ⟨Hlen.out, cs, ho.kept (below_grown hb1) (by simp [Value.ownBlock]), fun i hi => (h3 i hi).keep fun q hq => hb1.cell (by omega)⟩, hb1.mono hbase⟩
  | some i0 =>
    have hidx : idxF p ts = (i0 : Int) := by unfold idxF; rw [hfi]
    rw [List.findIdx?_eq_some_iff_getElem] at hfi
    obtain ⟨hi0, hpi, hbef⟩ := hfi
    have hin : i0 < n := by rw [← Hlen.out]; exact hi0
    obtain ⟨g, c, rfl⟩ : ∃ g c, v = .slice (some ⟨g, 0, none⟩) n c := by
      rcases hform with rfl | h
      · have := (hown.terms (A := none) (m := 0) (c := 0) (Nat.le_trans hB hbase)).1
        omega
      · exact h
    clear hform
    obtain ⟨_, hbg, hgl, hnc, hcm⟩ := hown.form
    unfold maxLen at hcm
    have ht := (hown.terms (Nat.le_trans hB hbase)).2
    have hk0 : ((ts.take i0).filter fun t => !p t) = ts.take i0 := by
      rw [List.filter_eq_self]
      intro t ht
      obtain ⟨j, hj, rfl⟩ := List.getElem_of_mem ht
      rw [List.getElem_take]
      have := hbef j (by rw [List.length_take] at hj; omega)
      simpa using this
    have hk1 : ((ts.take (i0 + 1)).filter fun t => !p t) = ts.take i0 := by
      rw [filter_take_succ _ _ _ hi0, hk0, hpi]
      simp
    have Hk1 := Lib.hid hk1
    have Hidx := Lib.hid hidx
    have hst := hown.2
    have Hst := Lib.hid hst
    clear hk0 hk1 hidx hbef hpi hown hst
    unfold Enters at hf
    go_enter Try.func70, Try.ntmps70
    go_wp2_with fail
    refine (index_any F p hf Hp.out _ _ _ ts _ ht).mono ?_; rintro e w1 ⟨rfl, hb1⟩
    rw [Hidx.out]
    have hne1 : ((i0 : Int) == -1) = false := beq_eq_false_iff_ne.2 (by omega)
    go_wp2_with fail
    obtain ⟨cs0, ho0, h30⟩ := Hst.out
    have ho1 := ho0.kept (below_grown hb1) (by simp [Value.ownBlock])
    have h31 : ∀ i (h : i < ts.length), C3 w1 B cs0 i ts[i] := fun i hi => (h30 i hi).keep fun q hq => hb1.cell (by omega)
    clear ho0 h30 Hst Hown ht
    go_loopg [5, 6] (n - (i0 + 1)) (fun gg a b wr => ∃ (i j : Nat) (cs : List Value), j ≤ n ∧ i < j ∧ gg = n - j ∧ a = .int .i64 i ∧ b = .int .i64 j ∧ i = ((ts.take j).filter fun t => !p t).length ∧
      wr.ownsRow base 37 3 (.slice (some ⟨g, 0, none⟩) n c) n cs ∧ (∀ x (h : x < ((ts.take j).filter fun t => !p t).length), C3 wr B cs x ((ts.take j).filter fun t => !p t)[x]) ∧ (∀ y (h : y < ts.length), j ≤ y → C3 wr B cs y ts[y]) ∧ Below base w wr ∧ w.heap.size ≤ wr.heap.size)
    case atStart =>
      refine ⟨i0, i0 + 1, cs0, by omega, by omega, rfl, rfl, by go_num, ?_, ho1, ?_, fun y hy _ => h31 y hy, hb1.mono hbase, hb1.size⟩
      · rw [Hk1.out, List.length_take]; omega
      · rw [Hk1.out]
        intro x hx
        have hx' : x < ts.length := by rw [List.length_take] at hx; omega
        rw [List.getElem_take]
        exact h31 x hx'
    case round =>
      obtain ⟨i, j, cs, hj, hij, rfl, rfl, rfl, hi, ho, hpre, hsuf, hbel, hsz⟩ := hrel
      have Ho := Lib.hid ho
      have Hpre := Lib.hid hpre
      have Hsuf := Lib.hid hsuf
      have Hi := Lib.hid hi
      clear hpre hsuf hi ho ho1 h31
      by_cases hlt : j < n
      · have hj' : j < ts.length := by rw [Hlen.out]; exact hlt
        obtain ⟨A', m', d', c0, c1, c2, hr'⟩ := (Hsuf.out j hj' (Nat.le_refl _)).cells Ho.out hlt
        have Hr := Lib.hid hr'
        clear hr'
        go_wp2_with fail
        have hra := Hr.out.below ((Below.refl B wr).alloc (Nat.le_trans hB (Nat.le_trans hbase hsz)) (Obj.cells #[.bool ts[j].never, .int .u8 ts[j].c, .slice A' m' d'] 37))
        refine (Hp.out A' m' d' ts[j] _ B hra (by simp; omega)).mono ?_; rintro e w2 ⟨rfl, hb2⟩
        have hb2' := hb2
        simp only [World.size_alloc] at hb2'
        have hvb : Blk w2 wr.heap.size 37 #[.bool ts[j].never, .int .u8 ts[j].c, .slice A' m' d'] := by
          show w2.heap[wr.heap.size]? = _
          rw [hb2'.block _ (Nat.lt_succ_self _)]
          exact heap_alloc_new wr _
        have ho2 := (Ho.out.alloc (Obj.cells #[.bool ts[j].never, .int .u8 ts[j].c, .slice A' m' d'] 37)).kept (below_grown hb2) (by simp [Value.ownBlock])
        have hbw : Below wr.heap.size wr w2 := ((Below.refl wr.heap.size wr).alloc (Nat.le_refl _) (Obj.cells #[.bool ts[j].never, .int .u8 ts[j].c, .slice A' m' d'] 37)).trans (hb2.mono (by simp))
        have hkB : ∀ q : Addr, q.block < B → w2.cell? q = wr.cell? q := fun q hq => hbw.cell (by omega)
        have HkB := Lib.hid hkB
        have Ho2 := Lib.hid ho2
        have hsz2 : w.heap.size ≤ w2.heap.size := Nat.le_trans hsz hbw.size
        have hbel2 : Below base w w2 := hbel.trans (hbw.mono (by omega))
        have Hr2 := Lib.hid (Hr.out.keep hkB)
        clear hb2 hb2' ho2 hkB hra hbw hbel hsz c0 c1 c2
        have hfs := filter_take_succ (fun t => !p t) ts j hj'
        cases hpj : p ts[j]
        · rw [hpj] at hfs
          simp only [Bool.not_false, if_true] at hfs
          have Hfs := Lib.hid hfs
          clear hfs hpj
          have hin2 : i < n := by omega
          have hcl : cs.length = n * 3 := Ho2.out.1
          have d0 : w2.cell? ⟨wr.heap.size, 0, none⟩ = some (.bool ts[j].never) := hvb.cell 0
          have d1 : w2.cell? ⟨wr.heap.size, 1, none⟩ = some (.int .u8 ts[j].c) := hvb.cell 1
          have d2 : w2.cell? ⟨wr.heap.size, 2, none⟩ = some (.slice A' m' d') := hvb.cell 2
          obtain ⟨y0, x0⟩ : ∃ y, w2.cell? ⟨g, i * 3, none⟩ = some y := ⟨_, by rw [Ho2.out.cellAt _ (by omega)]; exact List.getElem?_eq_getElem (by omega)⟩
          obtain ⟨y1, x1⟩ : ∃ y, w2.cell? ⟨g, i * 3 + 1, none⟩ = some y := ⟨_, by rw [Ho2.out.cellAt _ (by omega)]; exact List.getElem?_eq_getElem (by omega)⟩
          obtain ⟨y2, x2⟩ : ∃ y, w2.cell? ⟨g, i * 3 + 2, none⟩ = some y := ⟨_, by rw [Ho2.out.cellAt _ (by omega)]; exact List.getElem?_eq_getElem (by omega)⟩
          have f0 := Ho2.out.frozenAt (i * 3)
          have f1 := Ho2.out.frozenAt (i * 3 + 1)
          have f2 := Ho2.out.frozenAt (i * 3 + 2)
          have Hcl := Lib.hid hcl
          clear hcl hvb
          go_wp2_with fail
          go_roundg (n - (j + 1))
          case measure => omega
          case rel =>
            have hs1 := (Ho2.out.stored (i * 3) (.bool ts[j].never)).1
            have hs2 := (hs1.stored (i * 3 + 1) (.int .u8 ts[j].c)).1
            have hs3 := (hs2.stored (i * 3 + 2) (.slice A' m' d')).1
            have hkeep : ∀ q : Addr, q.block < B → (((w2.setCell ⟨g, i * 3, none⟩ (.bool ts[j].never)).setCell ⟨g, i * 3 + 1, none⟩ (.int .u8 ts[j].c)).setCell ⟨g, i * 3 + 2, none⟩ (.slice A' m' d')).cell? q = w2.cell? q := by
              intro q hq
              rw [World.cell?_setCell_other _ _ _ _ (fun e => by subst e; simp at hq; omega), World.cell?_setCell_other _ _ _ _ (fun e => by subst e; simp at hq; omega), World.cell?_setCell_other _ _ _ _ (fun e => by subst e; simp at hq; omega)]
            have hout : ∀ k, k < i * 3 ∨ i * 3 + 3 ≤ k → (((cs.set (i * 3) (.bool ts[j].never)).set (i * 3 + 1) (.int .u8 ts[j].c)).set (i * 3 + 2) (.slice A' m' d'))[k]? = cs[k]? := by
              intro k hk
              rw [List.getElem?_set_ne (by omega), List.getElem?_set_ne (by omega), List.getElem?_set_ne (by omega)]
            refine ⟨i + 1, j + 1, _, by omega, by omega, rfl, by go_num, by go_num, ?_, hs3, ?_, ?_, ((hbel2.setCell (by exact hbg) _).setCell (by exact hbg) _).setCell (by exact hbg) _, by simpa using hsz2⟩
            · rw [Hfs.out, List.length_append, ← Hi.out]; rfl
            · rw [Hfs.out]
              intro x hx
              rw [List.length_append, ← Hi.out] at hx
              rcases Nat.lt_or_ge x i with h | h
              · rw [List.getElem_append_left (by rw [← Hi.out]; exact h)]
                exact (((Hpre.out x (by rw [← Hi.out]; exact h)).keep HkB.out).keep hkeep).congr fun k h1 h2 => hout k (by omega)
              · have hxi : x = i := by simp at hx; omega
                subst hxi
                rw [List.getElem_append_right (by rw [← Hi.out]; exact Nat.le_refl _)]
                have e0 : (([ts[j]] : List TermD)[x - ((ts.take j).filter fun t => !p t).length]'(by rw [← Hi.out]; simp)) = ts[j] := by
                  have : x - ((ts.take j).filter fun t => !p t).length = 0 := by rw [← Hi.out]; omega
                  simp [this]
                rw [e0]
                have hl := Hcl.out
                exact ⟨A', m', d', by rw [List.getElem?_set_ne (by omega), List.getElem?_set_ne (by omega), List.getElem?_set_self (by omega)], by rw [List.getElem?_set_ne (by omega), List.getElem?_set_self (by simp; omega)], by rw [List.getElem?_set_self (by simp; omega)], Hr2.out.keep hkeep⟩
            · intro y hy hjy
              exact (((Hsuf.out y hy (by omega)).keep HkB.out).keep hkeep).congr fun k h1 h2 => hout k (by omega)
        · rw [hpj] at hfs
          simp only [Bool.not_true, Bool.false_eq_true, if_false, List.append_nil] at hfs
          have Hfs := Lib.hid hfs
          clear hfs hpj hvb
          go_wp2_with fail
          go_roundg (n - (j + 1))
          case measure => omega
          case rel =>
            refine ⟨i, j + 1, cs, by omega, by omega, rfl, rfl, by go_num, ?_, Ho2.out, ?_, fun y hy hjy => (Hsuf.out y hy (by omega)).keep HkB.out, hbel2, hsz2⟩
            · rw [Hfs.out]; exact Hi.out
            · rw [Hfs.out]
              intro x hx
              exact (Hpre.out x hx).keep HkB.out
      · have hjn : j = n := by omega
        subst hjn
        have hall : ts.take j = ts := List.take_of_length_le (by rw [Hlen.out]; exact Nat.le_refl _)
        have Hall := Lib.hid hall
        clear hall
        have hci : ¬ (c = i) := by omega
        have hclr := fun ty => run_clear_cells (P := Try.prog) wr 84 37 ty (.agg #[.bool false, .int .u8 0, .slice none 0 0]) #[.bool false, .int .u8 0, .slice none 0 0] Try.underlying84 Try.zeroValue37 rfl (by simp [Value.oneCell']) (by simp) g (i * 3) (j - i) (c - i) (by omega) (fun k hk => by
          have hk' : k < (j - i) * 3 := hk
          rw [Ho.out.cellAt _ (by omega), List.getElem?_eq_getElem (by rw [Ho.out.1]; omega)]; rfl) (fun k hk => Ho.out.frozenAt _)
        go_wp2_with fail
        go_ret
        obtain ⟨cs', hs1, hs2, hs3⟩ := ownsRow_setCells (Builtin.zeroCells #[.bool false, .int .u8 0, .slice none 0 0] (j - i)).toList cs (i * 3) wr Ho.out
        have hkeep : ∀ q : Addr, q.block < B → (wr.setCells g (i * 3) (Builtin.zeroCells #[.bool false, .int .u8 0, .slice none 0 0] (j - i)).toList).cell? q = wr.cell? q := by
          intro q hq
          rcases Nat.lt_or_ge q.block wr.heap.size with h | h
          · exact World.cell?_of_block (hs3.block q.block h (by simp; omega))
          · omega
        refine ⟨_, i, rfl, .inr ⟨g, c, rfl⟩, ⟨?_, _, ownsRow_cut hs1 (by omega), ?_⟩, hbel.grown hs3 (Nat.le_trans hbase hsz) (fun k hk => by injection hk with hk; omega)⟩
        · rw [← Hall.out]; exact Hi.out.symm
        · intro x hx
          have hx' : x < ((ts.take j).filter fun t => !p t).length := by rw [Hall.out]; exact hx
          have h1 := Hpre.out x hx'
          have hxi : x < i := by rw [Hi.out]; exact hx'
          have e1 : ((ts.take j).filter fun t => !p t)[x] = (ts.filter fun t => !p t)[x] := by
            congr 1
            rw [Hall.out]
          rw [e1] at h1
          exact ((h1.keep hkeep).congr fun k h2 h3 => hs2 k (by omega)).cut hxi

end Go.Proofs.Ytimlbpjdgnapoaa

