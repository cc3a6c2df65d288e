/- The contract of term.Join. -/
import Derived.Test.YtimlbpjdgnapoaaTermF
import Derived.Test.YtimlbpjdgnapoaaApp
import Derived.Deep.RegionHeld3
namespace Go.Proofs.Ytimlbpjdgnapoaa
set_option linter.unusedVariables false
set_option linter.unusedSimpArgs false
open Go.RowKit

theorem pred_join : Pred 72 (fun t => t.never) := by
  intro A n c t w B hr hB
  obtain ⟨nv, tc, vs⟩ := t
  go_enter Try.func72, Try.ntmps72
  go_wp2_with fail
  go_ret
  exact ⟨rfl, (Below.refl _ _).alloc (Nat.le_refl _) _⟩
theorem pred_sum : Pred 74 (fun t => t.never) := by
  intro A n c t w B hr hB
  obtain ⟨nv, tc, vs⟩ := t
  go_enter Try.func74, Try.ntmps74
  go_wp2_with fail
  go_ret
  exact ⟨rfl, (Below.refl _ _).alloc (Nat.le_refl _) _⟩
theorem intInfo : (Try.prog.info? 3).map (fun i => (i.zero, i.size, i.bytes)) = some (some (.int .i64 0), 1, 8) := by kernel_rfl

theorem joinCs_snoc (c : Int) (l : List TermD) (t : TermD) : joinCs c (l ++ [t]) = max (joinCs c l) t.c := by simp [joinCs, List.foldl_append]
theorem joinVs_snoc (l : List TermD) (t : TermD) : joinVs (l ++ [t]) = joinVs l ++ t.vars := by simp [joinVs]
theorem joinVs_le (l : List TermD) : (joinVs l).length = (l.map (·.vars.length)).sum := by
  induction l with
  | nil => rfl
  | cons t l ih => simp only [joinVs, List.flatMap_cons, List.length_append, List.map_cons, List.sum_cons] at ih ⊢; omega

theorem joinVs_sub {l l' : List TermD} (h : List.Sublist l l') : (joinVs l).length ≤ (joinVs l').length := by
  induction h with
  | slnil => exact Nat.le_refl _
  | cons a _ ih =>
    simp only [joinVs, List.flatMap_cons, List.length_append] at ih ⊢
    omega
  | cons_cons a _ ih =>
    simp only [joinVs, List.flatMap_cons, List.length_append] at ih ⊢
    omega

set_option maxHeartbeats 1000000 in
theorem join_no (A : Option Addr) (n c : Nat) (ts : List TermD) (w : World) (hr : TermsV w w.heap.size A n c ts) (hno : allMay ts = false) :
    Calls Try.prog 44 #[.slice A n c] w (RetTE zeroT 2 w) := by
  have Hno := Lib.hid hno
  clear hno
  have hbel : Below w.heap.size w (w.alloc (Obj.cells #[.bool false, .int .u8 0, .slice none 0 0] 37)) := (Below.refl _ _).alloc (Nat.le_refl _) _
  have hr1 := (hr.below hbel).more (B' := (w.alloc (Obj.cells #[.bool false, .int .u8 0, .slice none 0 0] 37)).heap.size) hbel.size
  go_enter Try.func44, Try.ntmps44
  go_wp2_with fail
  refine (mays_any A n c ts _ hr1).mono ?_; rintro e w1 ⟨rfl, hb1⟩
  rw [Hno.out]
  have hb1' := hb1
  simp only [World.size_alloc] at hb1'
  have hself : Blk w1 w.heap.size 37 #[.bool false, .int .u8 0, .slice none 0 0] := by
    show w1.heap[w.heap.size]? = _
    rw [hb1'.block _ (Nat.lt_succ_self _)]
    exact heap_alloc_new w _
  have hbel1 : Below w.heap.size w w1 := hbel.trans (hb1.mono hbel.size)
  have c0 : w1.cell? ⟨w.heap.size, 0, none⟩ = some (.bool false) := hself.cell 0
  have c1 : w1.cell? ⟨w.heap.size, 1, none⟩ = some (.int .u8 0) := hself.cell 1
  have c2 : w1.cell? ⟨w.heap.size, 2, none⟩ = some (.slice none 0 0) := hself.cell 2
  have f0 := hself.frozen 0
  have f1 := hself.frozen 1
  have f2 := hself.frozen 2
  clear hb1 hb1' hr hr1 hbel
  go_wp2_with fail
  have hs := hself.set3 (.bool false) (.int .u8 0) (.slice none 0 0)
  have hb3 := ((hbel1.setCell (p := ⟨w.heap.size, 0, none⟩) (Nat.le_refl _) (.bool false)).setCell (p := ⟨w.heap.size, 1, none⟩) (Nat.le_refl _) (.int .u8 0)).setCell (p := ⟨w.heap.size, 2, none⟩) (Nat.le_refl _) (.slice none 0 0)
  generalize (((w1.setCell ⟨w.heap.size, 0, none⟩ (.bool false)).setCell ⟨w.heap.size, 1, none⟩ (.int .u8 0)).setCell ⟨w.heap.size, 2, none⟩ (.slice none 0 0)) = W3 at hs hb3 ⊢
  have d0 : W3.cell? ⟨w.heap.size, 0, none⟩ = some (.bool false) := hs.cell 0
  have d1 : W3.cell? ⟨w.heap.size, 1, none⟩ = some (.int .u8 0) := hs.cell 1
  have d2 : W3.cell? ⟨w.heap.size, 2, none⟩ = some (.slice none 0 0) := hs.cell 2
  exact bodyPost_ret (v := .tuple #[.agg #[.bool false, .int .u8 0, .slice none 0 0], .int .i64 2]) (by simp [results, Try.results44, go_sem, d0, d1, d2]) rfl ⟨none, 0, 0, rfl, RdI.nil, hb3⟩

set_option maxHeartbeats 2000000 in
theorem join_yes (A : Option Addr) (n c : Nat) (ts : List TermD) (w : World) (hr : TermsV w w.heap.size A n c ts) (hyes : allMay ts = true) (hn : n ≤ 1099511627776) (hsum : (joinVs ts).length ≤ 1099511627776) :
    Calls Try.prog 44 #[.slice A n c] w (RetTE (joinT ts) 0 w) := by
  have hmx := @run_max2 Try.prog
  have Hyes := Lib.hid hyes
  clear hyes
  have hlen := hr.1
  have Hlen := Lib.hid hlen
  clear hlen
  have hbel : Below w.heap.size w (w.alloc (Obj.cells #[.bool false, .int .u8 0, .slice none 0 0] 37)) := (Below.refl _ _).alloc (Nat.le_refl _) _
  have hr1 := (hr.below hbel).more (B' := (w.alloc (Obj.cells #[.bool false, .int .u8 0, .slice none 0 0] 37)).heap.size) hbel.size
  go_enter Try.func44, Try.ntmps44
  go_wp2_with fail
  refine (mays_any A n c ts _ hr1).mono ?_; rintro e w1 ⟨rfl, hb1⟩
  rw [Hyes.out]
  have hr2 := (hr1.below hb1).more hb1.size
  simp only [World.size_alloc] at hb1
  have hself1 : Blk w1 w.heap.size 37 #[.bool false, .int .u8 0, .slice none 0 0] := by
    show w1.heap[w.heap.size]? = _
    rw [hb1.block _ (Nat.lt_succ_self _)]
    exact heap_alloc_new w _
  have hbel1 : Below w.heap.size w w1 := hbel.trans (hb1.mono (Nat.le_succ _))
  have hg1 : w.heap.size < w1.heap.size := hself1.lt
  clear hb1 hr hr1 hbel
  go_wp2_with fail
  refine (clone_any A n c ts _ hr2 (by omega)).mono ?_
  rintro e w2 ⟨v1, rfl, hown1, hf1, hb2⟩
  go_wp2_with fail
  refine (delete_any _ _ enters_join pred_join w1.heap.size w1.heap.size n v1 ts _ hown1 (Nat.le_refl _) hb2.size hf1).mono ?_
  rintro e w3 ⟨v2, m, rfl, hf2, hown2, hb3⟩
  obtain ⟨A2, c2, rfl⟩ : ∃ A2 c2, v2 = .slice A2 m c2 := by
    rcases hf2 with ⟨rfl, rfl⟩ | ⟨g, c, rfl⟩
    · exact ⟨none, 0, rfl⟩
    · exact ⟨some ⟨g, 0, none⟩, c, rfl⟩
  have hb23 : Below w1.heap.size w1 w3 := hb2.trans hb3
  have hself3 := hself1.below hb23 hg1
  have hbel3 : Below w.heap.size w w3 := hbel1.trans (hb23.mono hbel1.size)
  have hts := (hown2.terms (Nat.le_trans hb2.size hb3.size)).2
  have hlen2 : (someT ts).length = m := hown2.1
  have Hlen2 := Lib.hid hlen2
  have hmn : m ≤ n := by rw [← hlen2, ← Hlen.out]; exact List.length_filter_le _ _
  clear hlen2 hown1 hown2 hf1 hf2 hb2 hb3 hb23 hself1 hbel1 hg1 hr2
  have hsom : someT ts = (ts.filter fun t => !(fun t : TermD => t.never) t) := rfl
  rw [← hsom] at hts
  clear hsom
  have c0 : w3.cell? ⟨w.heap.size, 0, none⟩ = some (.bool false) := hself3.cell 0
  have c1 : w3.cell? ⟨w.heap.size, 1, none⟩ = some (.int .u8 0) := hself3.cell 1
  have c2' : w3.cell? ⟨w.heap.size, 2, none⟩ = some (.slice none 0 0) := hself3.cell 2
  have f0 := hself3.frozen 0
  have f1 := hself3.frozen 1
  have f2 := hself3.frozen 2
  by_cases hm0 : m = 0
  · subst hm0
    have hj : joinT ts = ⟨true, 0, []⟩ := by unfold joinT; rw [if_pos (List.eq_nil_of_length_eq_zero Hlen2.out)]
    have Hj := Lib.hid hj
    clear hj
    go_wp2_with fail
    have hs := hself3.set3 (.bool true) (.int .u8 0) (.slice none 0 0)
    have hb3 := ((hbel3.setCell (p := ⟨w.heap.size, 0, none⟩) (Nat.le_refl _) (.bool true)).setCell (p := ⟨w.heap.size, 1, none⟩) (Nat.le_refl _) (.int .u8 0)).setCell (p := ⟨w.heap.size, 2, none⟩) (Nat.le_refl _) (.slice none 0 0)
    generalize (((w3.setCell ⟨w.heap.size, 0, none⟩ (.bool true)).setCell ⟨w.heap.size, 1, none⟩ (.int .u8 0)).setCell ⟨w.heap.size, 2, none⟩ (.slice none 0 0)) = W3 at hs hb3 ⊢
    have d0 : W3.cell? ⟨w.heap.size, 0, none⟩ = some (.bool true) := hs.cell 0
    have d1 : W3.cell? ⟨w.heap.size, 1, none⟩ = some (.int .u8 0) := hs.cell 1
    have d2 : W3.cell? ⟨w.heap.size, 2, none⟩ = some (.slice none 0 0) := hs.cell 2
    exact bodyPost_ret (v := .tuple #[.agg #[.bool true, .int .u8 0, .slice none 0 0], .int .i64 0]) (by simp [results, Try.results44, go_sem, d0, d1, d2]) rfl (by rw [Hj.out]; exact ⟨none, 0, 0, rfl, RdI.nil, hb3⟩)
  · have hm1 : ((m : Int) == 0) = false := beq_eq_false_iff_ne.2 (by omega)
    have hj : joinT ts = cleanT (joinCs (joinC0 ts) (someT ts)) (joinVs (someT ts)) := by
      unfold joinT
      rw [if_neg (fun e => hm0 (by rw [← Hlen2.out, e]; rfl))]
    have Hj := Lib.hid hj
    clear hj
    have hc0 : (m < n ∧ joinC0 ts = 2) ∨ (¬ m < n ∧ joinC0 ts = 1) := by
      unfold joinC0
      rw [Hlen2.out, Hlen.out]
      by_cases h : m < n
      · exact .inl ⟨h, if_pos h⟩
      · exact .inr ⟨h, if_neg h⟩
    clear c0 c1 c2' f0 f1 f2
    have hmc := hts.2.1
    have hcm := hts.2.2.1
    unfold maxLen at hcm
    have Hts := Lib.hid hts
    clear hts
    have hsub : ∀ l : List TermD, List.Sublist l (someT ts) → (joinVs l).length ≤ 1099511627776 := by
      intro l hl
      have h1 : List.Sublist l ts := hl.trans List.filter_sublist
      exact Nat.le_trans (joinVs_sub h1) hsum
    have Hsub := Lib.hid hsub
    clear hsub hsum
    obtain ⟨i0, hi0, hz0, hz1, hz2⟩ := info_parts intInfo
    rcases hc0 with ⟨hlt, hj0⟩ | ⟨hlt, hj0⟩
    · have Hj' := Lib.hid (Hj.out.trans (by rw [hj0] : _ = cleanT (joinCs 2 (someT ts)) (joinVs (someT ts))))
      clear hj0 Hj
      go_wp2_with fail
      go_loopg [5, 6, 27] m (fun gg cc vv i wr => ∃ k : Nat, k ≤ m ∧ gg = m - k ∧ i = .int .i64 k ∧ cc = .int .u8 (joinCs 2 ((someT ts).take k)) ∧
        wr.ownsRow w3.heap.size 3 1 vv (joinVs ((someT ts).take k)).length ((joinVs ((someT ts).take k)).map (Value.int .i64)) ∧ Below w3.heap.size w3 wr)
      case atStart => exact ⟨0, Nat.zero_le _, rfl, rfl, rfl, World.ownsRow_nil _ _ _ _, Below.refl _ _⟩
      case round =>
        obtain ⟨k, hk, rfl, rfl, rfl, ho, hbel⟩ := hrel
        have Ho := Lib.hid ho
        clear ho
        by_cases hlk : k < m
        · obtain ⟨b, off, rfl, hb, hcell⟩ := Hts.out.2.2.2 (by omega)
          have hk' : k < (someT ts).length := by rw [Hlen2.out]; exact hlk
          obtain ⟨A', n', c', e0, e1, e2, hr'⟩ := (hcell k hk').keep hb (fun q hq => hbel.cell hq)
          have hstep : (someT ts).take (k + 1) = (someT ts).take k ++ [(someT ts)[k]] := List.take_succ_eq_append_getElem hk'
          have Hstep := Lib.hid hstep
          have Hr := Lib.hid hr'
          have hle : (joinVs ((someT ts).take k)).length + n' ≤ 1099511627776 := by
            have h1 := Hsub.out ((someT ts).take (k + 1)) (List.take_sublist _ _)
            rw [hstep, joinVs_snoc, List.length_append, hr'.len] at h1
            exact h1
          clear hstep hr' hcell
          go_wp2_with fail
          have ho' := Ho.out.alloc (Obj.cells #[.bool ((someT ts)[k]).never, .int .u8 ((someT ts)[k]).c, .slice A' n' c'] 37)
          have hne : u6.ownBlock ≠ some wr.heap.size := fun e => by have := (Ho.out.lt _ e).2; omega
          have hra := Hr.out.below ((Below.refl w3.heap.size wr).alloc hbel.size (Obj.cells #[.bool ((someT ts)[k]).never, .int .u8 ((someT ts)[k]).c, .slice A' n' c'] 37))
          have hbel' := hbel.alloc hbel.size (Obj.cells #[.bool ((someT ts)[k]).never, .int .u8 ((someT ts)[k]).c, .slice A' n' c'] 37)
          have q1 : (wr.alloc (Obj.cells #[.bool ((someT ts)[k]).never, .int .u8 ((someT ts)[k]).c, .slice A' n' c'] 37)).cell? ⟨wr.heap.size, 1, none⟩ = some (.int .u8 ((someT ts)[k]).c) := by rw [World.cell?_alloc_new]; rfl
          have q2 : (wr.alloc (Obj.cells #[.bool ((someT ts)[k]).never, .int .u8 ((someT ts)[k]).c, .slice A' n' c'] 37)).cell? ⟨wr.heap.size, 2, none⟩ = some (.slice A' n' c') := by rw [World.cell?_alloc_new]; rfl
          have htb : wr.heap.size < (wr.alloc (Obj.cells #[.bool ((someT ts)[k]).never, .int .u8 ((someT ts)[k]).c, .slice A' n' c'] 37)).heap.size := by simp
          generalize wr.alloc (Obj.cells #[.bool ((someT ts)[k]).never, .int .u8 ((someT ts)[k]).c, .slice A' n' c'] 37) = W at ho' hra hbel' q1 q2 htb ⊢
          generalize wr.heap.size = tb at hne q1 q2 htb ⊢
          go_region_held3 (fun w' => w'.cell? ⟨tb, 1, none⟩ = some (.int .u8 ((someT ts)[k]).c) ∧ w'.cell? ⟨tb, 2, none⟩ = some (.slice A' n' c'))
            (first | go_keep | (refine ⟨(hg4.cell_far _ (by simpa using htb) (Ne.symm hne)).trans q1, (hg4.cell_far _ (by simpa using htb) (Ne.symm hne)).trans q2⟩))
            ((refine step_append_rd (o := ⟨some 38, _, _, _, _, _⟩) _ (by rfl) (.tmp 35) (.tmp 37) 35 (by rfl) w3.heap.size 3 i0 _ 1 8 Try.underlying35 hi0 hz0 hz1 hz2 rfl (by omega) u6 (joinVs ((someT ts).take k)).length ((joinVs ((someT ts).take k)).map (Value.int .i64)) (by rfl) ho' w3.heap.size A' n' c' ((((someT ts)[k]).vars).map (Value.int .i64)) (by rfl) hra.1 (by intro u hu; obtain ⟨x, _, rfl⟩ := List.mem_map.1 hu; rfl) (by unfold maxLen; omega) (by omega) hbel'.size ?_; intro v4 w4 ho4 hg4 hat4))
          all_goals
            have ho5 : w4.ownsRow w3.heap.size 3 1 v4 (joinVs ((someT ts).take (k + 1))).length ((joinVs ((someT ts).take (k + 1))).map (Value.int .i64)) := by
              rw [Hstep.out, joinVs_snoc, List.length_append, List.map_append, Hr.out.len]
              exact ho4
            have hcs : joinCs 2 ((someT ts).take (k + 1)) = max (joinCs 2 ((someT ts).take k)) ((someT ts)[k]).c := by rw [Hstep.out, joinCs_snoc]
            have hbel5 : Below w3.heap.size w3 w4 := (hbel'.drew).grown hg4 hbel'.size (fun j hj => (ho'.lt _ hj).1)
            have Ho5 := Lib.hid ho5
            have Hcs := Lib.hid hcs
            clear hcs ho5 ho4 hat4 hg4 ho' hra hbel' q1 q2 e0 e1 e2
            go_wp2_with fail
            go_roundg (m - (k + 1))
            case rel => exact ⟨k + 1, by omega, rfl, by rfl, by rw [Hcs.out], Ho5.out, hbel5⟩
            case measure => omega
        · have hkm : k = m := by omega
          subst hkm
          have hall : (someT ts).take k = someT ts := List.take_of_length_le (by rw [Hlen2.out]; exact Nat.le_refl _)
          have ho1 := Ho.out
          rw [hall] at ho1
          obtain ⟨A6, c6, rfl⟩ : ∃ A6 c6, u6 = .slice A6 (joinVs (someT ts)).length c6 := by
            rcases ho1.2 with ⟨e0, hn0⟩ | ⟨g, cap, cur, e0, _⟩
            · exact ⟨none, 0, by rw [e0, hn0]⟩
            · exact ⟨some ⟨g, 0, none⟩, cap, e0⟩
          have hrv := RdI.of_own ho1
          have hs4 := hself3.below hbel hself3.lt
          have hb4 := hbel3.trans (hbel.mono hbel3.size)
          have hl6 : (joinVs (someT ts)).length * 8 ≤ 140737488355328 := by
            have := Hsub.out (someT ts) (List.Sublist.refl _)
            omega
          have Hl6 := Lib.hid hl6
          have Hall := Lib.hid hall
          have Hrv := Lib.hid hrv
          clear hl6 hall hrv ho1 hbel hbel3 hself3 Ho
          go_wp2_with fail
          rw [Hall.out]
          refine (clean_any (joinCs 2 (someT ts)) A6 _ c6 _ wr _ Hrv.out (Nat.le_refl _) Hl6.out).mono ?_
          rintro e w5 ⟨A7, n7, c7, rfl, hr7, hb7⟩
          have hs5 := hs4.below hb7 hs4.lt
          have hb5 := hb4.trans (hb7.mono hb4.size)
          generalize cleanT (joinCs 2 (someT ts)) (joinVs (someT ts)) = T at Hj' hr7
          have g0 : w5.cell? ⟨w.heap.size, 0, none⟩ = some (.bool false) := hs5.cell 0
          have g1 : w5.cell? ⟨w.heap.size, 1, none⟩ = some (.int .u8 0) := hs5.cell 1
          have g2 : w5.cell? ⟨w.heap.size, 2, none⟩ = some (.slice none 0 0) := hs5.cell 2
          have p0 := hs5.frozen 0
          have p1 := hs5.frozen 1
          have p2 := hs5.frozen 2
          have Hr7 := Lib.hid hr7
          clear hr7 hs4 hb4 hb7 Hrv
          go_wp2_with fail
          have hs := hs5.set3 (.bool T.never) (.int .u8 T.c) (.slice A7 n7 c7)
          have hb3 := ((hb5.setCell (p := ⟨w.heap.size, 0, none⟩) (Nat.le_refl _) (.bool T.never)).setCell (p := ⟨w.heap.size, 1, none⟩) (Nat.le_refl _) (.int .u8 T.c)).setCell (p := ⟨w.heap.size, 2, none⟩) (Nat.le_refl _) (.slice A7 n7 c7)
          have hr8 := Hr7.out.put3 hs5 (.bool T.never) (.int .u8 T.c) (.slice A7 n7 c7)
          have hr9 := hr8.more (B' := (((w5.setCell ⟨w.heap.size, 0, none⟩ (.bool T.never)).setCell ⟨w.heap.size, 1, none⟩ (.int .u8 T.c)).setCell ⟨w.heap.size, 2, none⟩ (.slice A7 n7 c7)).heap.size) (by simp)
          generalize (((w5.setCell ⟨w.heap.size, 0, none⟩ (.bool T.never)).setCell ⟨w.heap.size, 1, none⟩ (.int .u8 T.c)).setCell ⟨w.heap.size, 2, none⟩ (.slice A7 n7 c7)) = W3 at hs hb3 hr8 hr9 ⊢
          have d0 : W3.cell? ⟨w.heap.size, 0, none⟩ = some (.bool T.never) := hs.cell 0
          have d1 : W3.cell? ⟨w.heap.size, 1, none⟩ = some (.int .u8 T.c) := hs.cell 1
          have d2 : W3.cell? ⟨w.heap.size, 2, none⟩ = some (.slice A7 n7 c7) := hs.cell 2
          exact bodyPost_ret (v := .tuple #[.agg #[.bool T.never, .int .u8 T.c, .slice A7 n7 c7], .int .i64 0]) (by simp [results, Try.results44, go_sem, d0, d1, d2]) rfl (by rw [Hj'.out]; exact ⟨A7, n7, c7, rfl, hr9, hb3⟩)
    · have Hj' := Lib.hid (Hj.out.trans (by rw [hj0] : _ = cleanT (joinCs 1 (someT ts)) (joinVs (someT ts))))
      clear hj0 Hj
      go_wp2_with fail
      go_loopg [5, 6, 27] m (fun gg cc vv i wr => ∃ k : Nat, k ≤ m ∧ gg = m - k ∧ i = .int .i64 k ∧ cc = .int .u8 (joinCs 1 ((someT ts).take k)) ∧
        wr.ownsRow w3.heap.size 3 1 vv (joinVs ((someT ts).take k)).length ((joinVs ((someT ts).take k)).map (Value.int .i64)) ∧ Below w3.heap.size w3 wr)
      case atStart => exact ⟨0, Nat.zero_le _, rfl, rfl, rfl, World.ownsRow_nil _ _ _ _, Below.refl _ _⟩
      case round =>
        obtain ⟨k, hk, rfl, rfl, rfl, ho, hbel⟩ := hrel
        have Ho := Lib.hid ho
        clear ho
        by_cases hlk : k < m
        · obtain ⟨b, off, rfl, hb, hcell⟩ := Hts.out.2.2.2 (by omega)
          have hk' : k < (someT ts).length := by rw [Hlen2.out]; exact hlk
          obtain ⟨A', n', c', e0, e1, e2, hr'⟩ := (hcell k hk').keep hb (fun q hq => hbel.cell hq)
          have hstep : (someT ts).take (k + 1) = (someT ts).take k ++ [(someT ts)[k]] := List.take_succ_eq_append_getElem hk'
          have Hstep := Lib.hid hstep
          have Hr := Lib.hid hr'
          have hle : (joinVs ((someT ts).take k)).length + n' ≤ 1099511627776 := by
            have h1 := Hsub.out ((someT ts).take (k + 1)) (List.take_sublist _ _)
            rw [hstep, joinVs_snoc, List.length_append, hr'.len] at h1
            exact h1
          clear hstep hr' hcell
          go_wp2_with fail
          have ho' := Ho.out.alloc (Obj.cells #[.bool ((someT ts)[k]).never, .int .u8 ((someT ts)[k]).c, .slice A' n' c'] 37)
          have hne : u6.ownBlock ≠ some wr.heap.size := fun e => by have := (Ho.out.lt _ e).2; omega
          have hra := Hr.out.below ((Below.refl w3.heap.size wr).alloc hbel.size (Obj.cells #[.bool ((someT ts)[k]).never, .int .u8 ((someT ts)[k]).c, .slice A' n' c'] 37))
          have hbel' := hbel.alloc hbel.size (Obj.cells #[.bool ((someT ts)[k]).never, .int .u8 ((someT ts)[k]).c, .slice A' n' c'] 37)
          have q1 : (wr.alloc (Obj.cells #[.bool ((someT ts)[k]).never, .int .u8 ((someT ts)[k]).c, .slice A' n' c'] 37)).cell? ⟨wr.heap.size, 1, none⟩ = some (.int .u8 ((someT ts)[k]).c) := by rw [World.cell?_alloc_new]; rfl
          have q2 : (wr.alloc (Obj.cells #[.bool ((someT ts)[k]).never, .int .u8 ((someT ts)[k]).c, .slice A' n' c'] 37)).cell? ⟨wr.heap.size, 2, none⟩ = some (.slice A' n' c') := by rw [World.cell?_alloc_new]; rfl
          have htb : wr.heap.size < (wr.alloc (Obj.cells #[.bool ((someT ts)[k]).never, .int .u8 ((someT ts)[k]).c, .slice A' n' c'] 37)).heap.size := by simp
          generalize wr.alloc (Obj.cells #[.bool ((someT ts)[k]).never, .int .u8 ((someT ts)[k]).c, .slice A' n' c'] 37) = W at ho' hra hbel' q1 q2 htb ⊢
          generalize wr.heap.size = tb at hne q1 q2 htb ⊢
          go_region_held3 (fun w' => w'.cell? ⟨tb, 1, none⟩ = some (.int .u8 ((someT ts)[k]).c) ∧ w'.cell? ⟨tb, 2, none⟩ = some (.slice A' n' c'))
            (first | go_keep | (refine ⟨(hg4.cell_far _ (by simpa using htb) (Ne.symm hne)).trans q1, (hg4.cell_far _ (by simpa using htb) (Ne.symm hne)).trans q2⟩))
            ((refine step_append_rd (o := ⟨some 38, _, _, _, _, _⟩) _ (by rfl) (.tmp 35) (.tmp 37) 35 (by rfl) w3.heap.size 3 i0 _ 1 8 Try.underlying35 hi0 hz0 hz1 hz2 rfl (by omega) u6 (joinVs ((someT ts).take k)).length ((joinVs ((someT ts).take k)).map (Value.int .i64)) (by rfl) ho' w3.heap.size A' n' c' ((((someT ts)[k]).vars).map (Value.int .i64)) (by rfl) hra.1 (by intro u hu; obtain ⟨x, _, rfl⟩ := List.mem_map.1 hu; rfl) (by unfold maxLen; omega) (by omega) hbel'.size ?_; intro v4 w4 ho4 hg4 hat4))
          all_goals
            have ho5 : w4.ownsRow w3.heap.size 3 1 v4 (joinVs ((someT ts).take (k + 1))).length ((joinVs ((someT ts).take (k + 1))).map (Value.int .i64)) := by
              rw [Hstep.out, joinVs_snoc, List.length_append, List.map_append, Hr.out.len]
              exact ho4
            have hcs : joinCs 1 ((someT ts).take (k + 1)) = max (joinCs 1 ((someT ts).take k)) ((someT ts)[k]).c := by rw [Hstep.out, joinCs_snoc]
            have hbel5 : Below w3.heap.size w3 w4 := (hbel'.drew).grown hg4 hbel'.size (fun j hj => (ho'.lt _ hj).1)
            have Ho5 := Lib.hid ho5
            have Hcs := Lib.hid hcs
            clear hcs ho5 ho4 hat4 hg4 ho' hra hbel' q1 q2 e0 e1 e2
            go_wp2_with fail
            go_roundg (m - (k + 1))
            case rel => exact ⟨k + 1, by omega, rfl, by rfl, by rw [Hcs.out], Ho5.out, hbel5⟩
            case measure => omega
        · have hkm : k = m := by omega
          subst hkm
          have hall : (someT ts).take k = someT ts := List.take_of_length_le (by rw [Hlen2.out]; exact Nat.le_refl _)
          have ho1 := Ho.out
          rw [hall] at ho1
          obtain ⟨A6, c6, rfl⟩ : ∃ A6 c6, u6 = .slice A6 (joinVs (someT ts)).length c6 := by
            rcases ho1.2 with ⟨e0, hn0⟩ | ⟨g, cap, cur, e0, _⟩
            · exact ⟨none, 0, by rw [e0, hn0]⟩
            · exact ⟨some ⟨g, 0, none⟩, cap, e0⟩
          have hrv := RdI.of_own ho1
          have hs4 := hself3.below hbel hself3.lt
          have hb4 := hbel3.trans (hbel.mono hbel3.size)
          have hl6 : (joinVs (someT ts)).length * 8 ≤ 140737488355328 := by
            have := Hsub.out (someT ts) (List.Sublist.refl _)
            omega
          have Hl6 := Lib.hid hl6
          have Hall := Lib.hid hall
          have Hrv := Lib.hid hrv
          clear hl6 hall hrv ho1 hbel hbel3 hself3 Ho
          go_wp2_with fail
          rw [Hall.out]
          refine (clean_any (joinCs 1 (someT ts)) A6 _ c6 _ wr _ Hrv.out (Nat.le_refl _) Hl6.out).mono ?_
          rintro e w5 ⟨A7, n7, c7, rfl, hr7, hb7⟩
          have hs5 := hs4.below hb7 hs4.lt
          have hb5 := hb4.trans (hb7.mono hb4.size)
          generalize cleanT (joinCs 1 (someT ts)) (joinVs (someT ts)) = T at Hj' hr7
          have g0 : w5.cell? ⟨w.heap.size, 0, none⟩ = some (.bool false) := hs5.cell 0
          have g1 : w5.cell? ⟨w.heap.size, 1, none⟩ = some (.int .u8 0) := hs5.cell 1
          have g2 : w5.cell? ⟨w.heap.size, 2, none⟩ = some (.slice none 0 0) := hs5.cell 2
          have p0 := hs5.frozen 0
          have p1 := hs5.frozen 1
          have p2 := hs5.frozen 2
          have Hr7 := Lib.hid hr7
          clear hr7 hs4 hb4 hb7 Hrv
          go_wp2_with fail
          have hs := hs5.set3 (.bool T.never) (.int .u8 T.c) (.slice A7 n7 c7)
          have hb3 := ((hb5.setCell (p := ⟨w.heap.size, 0, none⟩) (Nat.le_refl _) (.bool T.never)).setCell (p := ⟨w.heap.size, 1, none⟩) (Nat.le_refl _) (.int .u8 T.c)).setCell (p := ⟨w.heap.size, 2, none⟩) (Nat.le_refl _) (.slice A7 n7 c7)
          have hr8 := Hr7.out.put3 hs5 (.bool T.never) (.int .u8 T.c) (.slice A7 n7 c7)
          have hr9 := hr8.more (B' := (((w5.setCell ⟨w.heap.size, 0, none⟩ (.bool T.never)).setCell ⟨w.heap.size, 1, none⟩ (.int .u8 T.c)).setCell ⟨w.heap.size, 2, none⟩ (.slice A7 n7 c7)).heap.size) (by simp)
          generalize (((w5.setCell ⟨w.heap.size, 0, none⟩ (.bool T.never)).setCell ⟨w.heap.size, 1, none⟩ (.int .u8 T.c)).setCell ⟨w.heap.size, 2, none⟩ (.slice A7 n7 c7)) = W3 at hs hb3 hr8 hr9 ⊢
          have d0 : W3.cell? ⟨w.heap.size, 0, none⟩ = some (.bool T.never) := hs.cell 0
          have d1 : W3.cell? ⟨w.heap.size, 1, none⟩ = some (.int .u8 T.c) := hs.cell 1
          have d2 : W3.cell? ⟨w.heap.size, 2, none⟩ = some (.slice A7 n7 c7) := hs.cell 2
          exact bodyPost_ret (v := .tuple #[.agg #[.bool T.never, .int .u8 T.c, .slice A7 n7 c7], .int .i64 0]) (by simp [results, Try.results44, go_sem, d0, d1, d2]) rfl (by rw [Hj'.out]; exact ⟨A7, n7, c7, rfl, hr9, hb3⟩)

end Go.Proofs.Ytimlbpjdgnapoaa
