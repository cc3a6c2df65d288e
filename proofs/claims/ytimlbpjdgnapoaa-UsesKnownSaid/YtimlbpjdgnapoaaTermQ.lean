/- term.Join, Sum, Scale: what they return lies in memory of its own (lines of TermG, TermH, TermK turned to clean_fresh). -/
import Derived.Test.YtimlbpjdgnapoaaTermP
namespace Go.Proofs.Ytimlbpjdgnapoaa
set_option linter.unusedVariables false
set_option linter.unusedSimpArgs false
open Go.RowKit


set_option maxHeartbeats 2000000 in
theorem join_fresh (A : Option Addr) (n c : Nat) (ts : List TermD) (w : World) (hr : TermsV w w.heap.size A n c ts) (hyes : allMay ts = true) (hn : n ≤ 1099511627776) (hsum : (joinVs ts).length ≤ 1099511627776) :
    Calls Try.prog 44 #[.slice A n c] w (RetFE (joinT ts) 0 w) := by
  have hmx := @run_max2 Try.prog
  have Hyes := Lib.hid hyes
  clear hyes
  have hlen := hr.1
  have Hlen := Lib.hid hlen
  clear hlen
  have hbel : Below w.heap.size w (w.alloc (Obj.cells #[.bool false, .int .u8 0, .slice none 0 0] 37)) := (Below.refl _ _).alloc (Nat.le_refl _) _
  have hr1 := (hr.below hbel).more (B' := (w.alloc (Obj.cells #[.bool false, .int .u8 0, .slice none 0 0] 37)).heap.size) hbel.size
  go_enter Try.func44, Try.ntmps44
  go_wp2_with fail
  refine (mays_any A n c ts _ hr1).mono ?_; rintro e w1 ⟨rfl, hb1⟩
  rw [Hyes.out]
  have hr2 := (hr1.below hb1).more hb1.size
  simp only [World.size_alloc] at hb1
  have hself1 : Blk w1 w.heap.size 37 #[.bool false, .int .u8 0, .slice none 0 0] := by
    show w1.heap[w.heap.size]? = _
    rw [hb1.block _ (Nat.lt_succ_self _)]
    exact heap_alloc_new w _
  have hbel1 : Below w.heap.size w w1 := hbel.trans (hb1.mono (Nat.le_succ _))
  have hg1 : w.heap.size < w1.heap.size := hself1.lt
  clear hb1 hr hr1 hbel
  go_wp2_with fail
  refine (clone_any A n c ts _ hr2 (by omega)).mono ?_
  rintro e w2 ⟨v1, rfl, hown1, hf1, hb2⟩
  go_wp2_with fail
  refine (delete_any _ _ enters_join pred_join w1.heap.size w1.heap.size n v1 ts _ hown1 (Nat.le_refl _) hb2.size hf1).mono ?_
  rintro e w3 ⟨v2, m, rfl, hf2, hown2, hb3⟩
  obtain ⟨A2, c2, rfl⟩ : ∃ A2 c2, v2 = .slice A2 m c2 := by
    rcases hf2 with ⟨rfl, rfl⟩ | ⟨g, c, rfl⟩
    · exact ⟨none, 0, rfl⟩
    · exact ⟨some ⟨g, 0, none⟩, c, rfl⟩
  have hb23 : Below w1.heap.size w1 w3 := hb2.trans hb3
  have hself3 := hself1.below hb23 hg1
  have hbel3 : Below w.heap.size w w3 := hbel1.trans (hb23.mono hbel1.size)
  have hts := (hown2.terms (Nat.le_trans hb2.size hb3.size)).2
  have hlen2 : (someT ts).length = m := hown2.1
  have Hlen2 := Lib.hid hlen2
  have hmn : m ≤ n := by rw [← hlen2, ← Hlen.out]; exact List.length_filter_le _ _
  clear hlen2 hown1 hown2 hf1 hf2 hb2 hb3 hb23 hself1 hbel1 hg1 hr2
  have hsom : someT ts = (ts.filter fun t => !(fun t : TermD => t.never) t) := rfl
  rw [← hsom] at hts
  clear hsom
  have c0 : w3.cell? ⟨w.heap.size, 0, none⟩ = some (.bool false) := hself3.cell 0
  have c1 : w3.cell? ⟨w.heap.size, 1, none⟩ = some (.int .u8 0) := hself3.cell 1
  have c2' : w3.cell? ⟨w.heap.size, 2, none⟩ = some (.slice none 0 0) := hself3.cell 2
  have f0 := hself3.frozen 0
  have f1 := hself3.frozen 1
  have f2 := hself3.frozen 2
  by_cases hm0 : m = 0
  · subst hm0
    have hj : joinT ts = ⟨true, 0, []⟩ := by unfold joinT; rw [if_pos (List.eq_nil_of_length_eq_zero Hlen2.out)]
    have Hj := Lib.hid hj
    clear hj
    go_wp2_with fail
    have hs := hself3.set3 (.bool true) (.int .u8 0) (.slice none 0 0)
    have hb3 := ((hbel3.setCell (p := ⟨w.heap.size, 0, none⟩) (Nat.le_refl _) (.bool true)).setCell (p := ⟨w.heap.size, 1, none⟩) (Nat.le_refl _) (.int .u8 0)).setCell (p := ⟨w.heap.size, 2, none⟩) (Nat.le_refl _) (.slice none 0 0)
    generalize (((w3.setCell ⟨w.heap.size, 0, none⟩ (.bool true)).setCell ⟨w.heap.size, 1, none⟩ (.int .u8 0)).setCell ⟨w.heap.size, 2, none⟩ (.slice none 0 0)) = W3 at hs hb3 ⊢
    have d0 : W3.cell? ⟨w.heap.size, 0, none⟩ = some (.bool true) := hs.cell 0
    have d1 : W3.cell? ⟨w.heap.size, 1, none⟩ = some (.int .u8 0) := hs.cell 1
    have d2 : W3.cell? ⟨w.heap.size, 2, none⟩ = some (.slice none 0 0) := hs.cell 2
    exact bodyPost_ret (v := .tuple #[.agg #[.bool true, .int .u8 0, .slice none 0 0], .int .i64 0]) (by simp [results, Try.results44, go_sem, d0, d1, d2]) rfl (by rw [Hj.out]; exact ⟨none, 0, 0, rfl, RdI.nil, hb3, fun h => absurd h (by omega)⟩)
  · have hm1 : ((m : Int) == 0) = false := beq_eq_false_iff_ne.2 (by omega)
    have hj : joinT ts = cleanT (joinCs (joinC0 ts) (someT ts)) (joinVs (someT ts)) := by
      unfold joinT
      rw [if_neg (fun e => hm0 (by rw [← Hlen2.out, e]; rfl))]
    have Hj := Lib.hid hj
    clear hj
    have hc0 : (m < n ∧ joinC0 ts = 2) ∨ (¬ m < n ∧ joinC0 ts = 1) := by
      unfold joinC0
      rw [Hlen2.out, Hlen.out]
      by_cases h : m < n
      · exact .inl ⟨h, if_pos h⟩
      · exact .inr ⟨h, if_neg h⟩
    clear c0 c1 c2' f0 f1 f2
    have hmc := hts.2.1
    have hcm := hts.2.2.1
    unfold maxLen at hcm
    have Hts := Lib.hid hts
    clear hts
    have hsub : ∀ l : List TermD, List.Sublist l (someT ts) → (joinVs l).length ≤ 1099511627776 := by
      intro l hl
      have h1 : List.Sublist l ts := hl.trans List.filter_sublist
      exact Nat.le_trans (joinVs_sub h1) hsum
    have Hsub := Lib.hid hsub
    clear hsub hsum
    obtain ⟨i0, hi0, hz0, hz1, hz2⟩ := info_parts intInfo
    rcases hc0 with ⟨hlt, hj0⟩ | ⟨hlt, hj0⟩
    · have Hj' := Lib.hid (Hj.out.trans (by rw [hj0] : _ = cleanT (joinCs 2 (someT ts)) (joinVs (someT ts))))
      clear hj0 Hj
      go_wp2_with fail
      go_loopg [5, 6, 27] m (fun gg cc vv i wr => ∃ k : Nat, k ≤ m ∧ gg = m - k ∧ i = .int .i64 k ∧ cc = .int .u8 (joinCs 2 ((someT ts).take k)) ∧
        wr.ownsRow w3.heap.size 3 1 vv (joinVs ((someT ts).take k)).length ((joinVs ((someT ts).take k)).map (Value.int .i64)) ∧ Below w3.heap.size w3 wr)
      case atStart => exact ⟨0, Nat.zero_le _, rfl, rfl, rfl, World.ownsRow_nil _ _ _ _, Below.refl _ _⟩
      case round =>
        obtain ⟨k, hk, rfl, rfl, rfl, ho, hbel⟩ := hrel
        have Ho := Lib.hid ho
        clear ho
        by_cases hlk : k < m
        · obtain ⟨b, off, rfl, hb, hcell⟩ := Hts.out.2.2.2 (by omega)
          have hk' : k < (someT ts).length := by rw [Hlen2.out]; exact hlk
          obtain ⟨A', n', c', e0, e1, e2, hr'⟩ := (hcell k hk').keep hb (fun q hq => hbel.cell hq)
          have hstep : (someT ts).take (k + 1) = (someT ts).take k ++ [(someT ts)[k]] := List.take_succ_eq_append_getElem hk'
          have Hstep := Lib.hid hstep
          have Hr := Lib.hid hr'
          have hle : (joinVs ((someT ts).take k)).length + n' ≤ 1099511627776 := by
            have h1 := Hsub.out ((someT ts).take (k + 1)) (List.take_sublist _ _)
            rw [hstep, joinVs_snoc, List.length_append, hr'.len] at h1
            exact h1
          clear hstep hr' hcell
          go_wp2_with fail
          have ho' := Ho.out.alloc (Obj.cells #[.bool ((someT ts)[k]).never, .int .u8 ((someT ts)[k]).c, .slice A' n' c'] 37)
          have hne : u6.ownBlock ≠ some wr.heap.size := fun e => by have := (Ho.out.lt _ e).2; omega
          have hra := Hr.out.below ((Below.refl w3.heap.size wr).alloc hbel.size (Obj.cells #[.bool ((someT ts)[k]).never, .int .u8 ((someT ts)[k]).c, .slice A' n' c'] 37))
          have hbel' := hbel.alloc hbel.size (Obj.cells #[.bool ((someT ts)[k]).never, .int .u8 ((someT ts)[k]).c, .slice A' n' c'] 37)
          have q1 : (wr.alloc (Obj.cells #[.bool ((someT ts)[k]).never, .int .u8 ((someT ts)[k]).c, .slice A' n' c'] 37)).cell? ⟨wr.heap.size, 1, none⟩ = some (.int .u8 ((someT ts)[k]).c) := by rw [World.cell?_alloc_new]; rfl
          have q2 : (wr.alloc (Obj.cells #[.bool ((someT ts)[k]).never, .int .u8 ((someT ts)[k]).c, .slice A' n' c'] 37)).cell? ⟨wr.heap.size, 2, none⟩ = some (.slice A' n' c') := by rw [World.cell?_alloc_new]; rfl
          have htb : wr.heap.size < (wr.alloc (Obj.cells #[.bool ((someT ts)[k]).never, .int .u8 ((someT ts)[k]).c, .slice A' n' c'] 37)).heap.size := by simp
          generalize wr.alloc (Obj.cells #[.bool ((someT ts)[k]).never, .int .u8 ((someT ts)[k]).c, .slice A' n' c'] 37) = W at ho' hra hbel' q1 q2 htb ⊢
          generalize wr.heap.size = tb at hne q1 q2 htb ⊢
          go_region_held3 (fun w' => w'.cell? ⟨tb, 1, none⟩ = some (.int .u8 ((someT ts)[k]).c) ∧ w'.cell? ⟨tb, 2, none⟩ = some (.slice A' n' c'))
            (first | go_keep | (refine ⟨(hg4.cell_far _ (by simpa using htb) (Ne.symm hne)).trans q1, (hg4.cell_far _ (by simpa using htb) (Ne.symm hne)).trans q2⟩))
            ((refine step_append_rd (o := ⟨some 38, _, _, _, _, _⟩) _ (by rfl) (.tmp 35) (.tmp 37) 35 (by rfl) w3.heap.size 3 i0 _ 1 8 Try.underlying35 hi0 hz0 hz1 hz2 rfl (by omega) u6 (joinVs ((someT ts).take k)).length ((joinVs ((someT ts).take k)).map (Value.int .i64)) (by rfl) ho' w3.heap.size A' n' c' ((((someT ts)[k]).vars).map (Value.int .i64)) (by rfl) hra.1 (by intro u hu; obtain ⟨x, _, rfl⟩ := List.mem_map.1 hu; rfl) (by unfold maxLen; omega) (by omega) hbel'.size ?_; intro v4 w4 ho4 hg4 hat4))
          all_goals
            have ho5 : w4.ownsRow w3.heap.size 3 1 v4 (joinVs ((someT ts).take (k + 1))).length ((joinVs ((someT ts).take (k + 1))).map (Value.int .i64)) := by
              rw [Hstep.out, joinVs_snoc, List.length_append, List.map_append, Hr.out.len]
              exact ho4
            have hcs : joinCs 2 ((someT ts).take (k + 1)) = max (joinCs 2 ((someT ts).take k)) ((someT ts)[k]).c := by rw [Hstep.out, joinCs_snoc]
            have hbel5 : Below w3.heap.size w3 w4 := (hbel'.drew).grown hg4 hbel'.size (fun j hj => (ho'.lt _ hj).1)
            have Ho5 := Lib.hid ho5
            have Hcs := Lib.hid hcs
            clear hcs ho5 ho4 hat4 hg4 ho' hra hbel' q1 q2 e0 e1 e2
            go_wp2_with fail
            go_roundg (m - (k + 1))
            case rel => exact ⟨k + 1, by omega, rfl, by rfl, by rw [Hcs.out], Ho5.out, hbel5⟩
            case measure => omega
        · have hkm : k = m := by omega
          subst hkm
          have hall : (someT ts).take k = someT ts := List.take_of_length_le (by rw [Hlen2.out]; exact Nat.le_refl _)
          have ho1 := Ho.out
          rw [hall] at ho1
          obtain ⟨A6, c6, rfl⟩ : ∃ A6 c6, u6 = .slice A6 (joinVs (someT ts)).length c6 := by
            rcases ho1.2 with ⟨e0, hn0⟩ | ⟨g, cap, cur, e0, _⟩
            · exact ⟨none, 0, by rw [e0, hn0]⟩
            · exact ⟨some ⟨g, 0, none⟩, cap, e0⟩
          have hrv := RdI.of_own ho1
          have hs4 := hself3.below hbel hself3.lt
          have hb4 := hbel3.trans (hbel.mono hbel3.size)
          have hl6 : (joinVs (someT ts)).length * 8 ≤ 140737488355328 := by
            have := Hsub.out (someT ts) (List.Sublist.refl _)
            omega
          have Hl6 := Lib.hid hl6
          have Hall := Lib.hid hall
          have Hrv := Lib.hid hrv
          clear hl6 hall hrv ho1 hbel hbel3 hself3 Ho
          go_wp2_with fail
          rw [Hall.out]
          refine (clean_fresh (joinCs 2 (someT ts)) A6 _ c6 _ wr _ Hrv.out (Nat.le_refl _) Hl6.out).mono ?_
          rintro e w5 ⟨A7, n7, c7, rfl, hr7, hb7, hf7⟩
          have HF7 : Hid (0 < n7 → ∃ a, A7 = some a ∧ w.heap.size ≤ a.block) := Lib.hid fun h => by obtain ⟨a, e, ha⟩ := hf7 h; exact ⟨a, e, Nat.le_trans hb4.size ha⟩
          clear hf7
          have hs5 := hs4.below hb7 hs4.lt
          have hb5 := hb4.trans (hb7.mono hb4.size)
          generalize cleanT (joinCs 2 (someT ts)) (joinVs (someT ts)) = T at Hj' hr7
          have g0 : w5.cell? ⟨w.heap.size, 0, none⟩ = some (.bool false) := hs5.cell 0
          have g1 : w5.cell? ⟨w.heap.size, 1, none⟩ = some (.int .u8 0) := hs5.cell 1
          have g2 : w5.cell? ⟨w.heap.size, 2, none⟩ = some (.slice none 0 0) := hs5.cell 2
          have p0 := hs5.frozen 0
          have p1 := hs5.frozen 1
          have p2 := hs5.frozen 2
          have Hr7 := Lib.hid hr7
          clear hr7 hs4 hb4 hb7 Hrv
          go_wp2_with fail
          have hs := hs5.set3 (.bool T.never) (.int .u8 T.c) (.slice A7 n7 c7)
          have hb3 := ((hb5.setCell (p := ⟨w.heap.size, 0, none⟩) (Nat.le_refl _) (.bool T.never)).setCell (p := ⟨w.heap.size, 1, none⟩) (Nat.le_refl _) (.int .u8 T.c)).setCell (p := ⟨w.heap.size, 2, none⟩) (Nat.le_refl _) (.slice A7 n7 c7)
          have hr8 := Hr7.out.put3 hs5 (.bool T.never) (.int .u8 T.c) (.slice A7 n7 c7)
          have hr9 := hr8.more (B' := (((w5.setCell ⟨w.heap.size, 0, none⟩ (.bool T.never)).setCell ⟨w.heap.size, 1, none⟩ (.int .u8 T.c)).setCell ⟨w.heap.size, 2, none⟩ (.slice A7 n7 c7)).heap.size) (by simp)
          generalize (((w5.setCell ⟨w.heap.size, 0, none⟩ (.bool T.never)).setCell ⟨w.heap.size, 1, none⟩ (.int .u8 T.c)).setCell ⟨w.heap.size, 2, none⟩ (.slice A7 n7 c7)) = W3 at hs hb3 hr8 hr9 ⊢
          have d0 : W3.cell? ⟨w.heap.size, 0, none⟩ = some (.bool T.never) := hs.cell 0
          have d1 : W3.cell? ⟨w.heap.size, 1, none⟩ = some (.int .u8 T.c) := hs.cell 1
          have d2 : W3.cell? ⟨w.heap.size, 2, none⟩ = some (.slice A7 n7 c7) := hs.cell 2
          exact bodyPost_ret (v := .tuple #[.agg #[.bool T.never, .int .u8 T.c, .slice A7 n7 c7], .int .i64 0]) (by simp [results, Try.results44, go_sem, d0, d1, d2]) rfl (by rw [Hj'.out]; exact ⟨A7, n7, c7, rfl, hr9, hb3, fun h => by obtain ⟨a, e, ha⟩ := HF7.out h; exact ⟨a, e, by omega⟩⟩)
    · have Hj' := Lib.hid (Hj.out.trans (by rw [hj0] : _ = cleanT (joinCs 1 (someT ts)) (joinVs (someT ts))))
      clear hj0 Hj
      go_wp2_with fail
      go_loopg [5, 6, 27] m (fun gg cc vv i wr => ∃ k : Nat, k ≤ m ∧ gg = m - k ∧ i = .int .i64 k ∧ cc = .int .u8 (joinCs 1 ((someT ts).take k)) ∧
        wr.ownsRow w3.heap.size 3 1 vv (joinVs ((someT ts).take k)).length ((joinVs ((someT ts).take k)).map (Value.int .i64)) ∧ Below w3.heap.size w3 wr)
      case atStart => exact ⟨0, Nat.zero_le _, rfl, rfl, rfl, World.ownsRow_nil _ _ _ _, Below.refl _ _⟩
      case round =>
        obtain ⟨k, hk, rfl, rfl, rfl, ho, hbel⟩ := hrel
        have Ho := Lib.hid ho
        clear ho
        by_cases hlk : k < m
        · obtain ⟨b, off, rfl, hb, hcell⟩ := Hts.out.2.2.2 (by omega)
          have hk' : k < (someT ts).length := by rw [Hlen2.out]; exact hlk
          obtain ⟨A', n', c', e0, e1, e2, hr'⟩ := (hcell k hk').keep hb (fun q hq => hbel.cell hq)
          have hstep : (someT ts).take (k + 1) = (someT ts).take k ++ [(someT ts)[k]] := List.take_succ_eq_append_getElem hk'
          have Hstep := Lib.hid hstep
          have Hr := Lib.hid hr'
          have hle : (joinVs ((someT ts).take k)).length + n' ≤ 1099511627776 := by
            have h1 := Hsub.out ((someT ts).take (k + 1)) (List.take_sublist _ _)
            rw [hstep, joinVs_snoc, List.length_append, hr'.len] at h1
            exact h1
          clear hstep hr' hcell
          go_wp2_with fail
          have ho' := Ho.out.alloc (Obj.cells #[.bool ((someT ts)[k]).never, .int .u8 ((someT ts)[k]).c, .slice A' n' c'] 37)
          have hne : u6.ownBlock ≠ some wr.heap.size := fun e => by have := (Ho.out.lt _ e).2; omega
          have hra := Hr.out.below ((Below.refl w3.heap.size wr).alloc hbel.size (Obj.cells #[.bool ((someT ts)[k]).never, .int .u8 ((someT ts)[k]).c, .slice A' n' c'] 37))
          have hbel' := hbel.alloc hbel.size (Obj.cells #[.bool ((someT ts)[k]).never, .int .u8 ((someT ts)[k]).c, .slice A' n' c'] 37)
          have q1 : (wr.alloc (Obj.cells #[.bool ((someT ts)[k]).never, .int .u8 ((someT ts)[k]).c, .slice A' n' c'] 37)).cell? ⟨wr.heap.size, 1, none⟩ = some (.int .u8 ((someT ts)[k]).c) := by rw [World.cell?_alloc_new]; rfl
          have q2 : (wr.alloc (Obj.cells #[.bool ((someT ts)[k]).never, .int .u8 ((someT ts)[k]).c, .slice A' n' c'] 37)).cell? ⟨wr.heap.size, 2, none⟩ = some (.slice A' n' c') := by rw [World.cell?_alloc_new]; rfl
          have htb : wr.heap.size < (wr.alloc (Obj.cells #[.bool ((someT ts)[k]).never, .int .u8 ((someT ts)[k]).c, .slice A' n' c'] 37)).heap.size := by simp
          generalize wr.alloc (Obj.cells #[.bool ((someT ts)[k]).never, .int .u8 ((someT ts)[k]).c, .slice A' n' c'] 37) = W at ho' hra hbel' q1 q2 htb ⊢
          generalize wr.heap.size = tb at hne q1 q2 htb ⊢
          go_region_held3 (fun w' => w'.cell? ⟨tb, 1, none⟩ = some (.int .u8 ((someT ts)[k]).c) ∧ w'.cell? ⟨tb, 2, none⟩ = some (.slice A' n' c'))
            (first | go_keep | (refine ⟨(hg4.cell_far _ (by simpa using htb) (Ne.symm hne)).trans q1, (hg4.cell_far _ (by simpa using htb) (Ne.symm hne)).trans q2⟩))
            ((refine step_append_rd (o := ⟨some 38, _, _, _, _, _⟩) _ (by rfl) (.tmp 35) (.tmp 37) 35 (by rfl) w3.heap.size 3 i0 _ 1 8 Try.underlying35 hi0 hz0 hz1 hz2 rfl (by omega) u6 (joinVs ((someT ts).take k)).length ((joinVs ((someT ts).take k)).map (Value.int .i64)) (by rfl) ho' w3.heap.size A' n' c' ((((someT ts)[k]).vars).map (Value.int .i64)) (by rfl) hra.1 (by intro u hu; obtain ⟨x, _, rfl⟩ := List.mem_map.1 hu; rfl) (by unfold maxLen; omega) (by omega) hbel'.size ?_; intro v4 w4 ho4 hg4 hat4))
          all_goals
            have ho5 : w4.ownsRow w3.heap.size 3 1 v4 (joinVs ((someT ts).take (k + 1))).length ((joinVs ((someT ts).take (k + 1))).map (Value.int .i64)) := by
              rw [Hstep.out, joinVs_snoc, List.length_append, List.map_append, Hr.out.len]
              exact ho4
            have hcs : joinCs 1 ((someT ts).take (k + 1)) = max (joinCs 1 ((someT ts).take k)) ((someT ts)[k]).c := by rw [Hstep.out, joinCs_snoc]
            have hbel5 : Below w3.heap.size w3 w4 := (hbel'.drew).grown hg4 hbel'.size (fun j hj => (ho'.lt _ hj).1)
            have Ho5 := Lib.hid ho5
            have Hcs := Lib.hid hcs
            clear hcs ho5 ho4 hat4 hg4 ho' hra hbel' q1 q2 e0 e1 e2
            go_wp2_with fail
            go_roundg (m - (k + 1))
            case rel => exact ⟨k + 1, by omega, rfl, by rfl, by rw [Hcs.out], Ho5.out, hbel5⟩
            case measure => omega
        · have hkm : k = m := by omega
          subst hkm
          have hall : (someT ts).take k = someT ts := List.take_of_length_le (by rw [Hlen2.out]; exact Nat.le_refl _)
          have ho1 := Ho.out
          rw [hall] at ho1
          obtain ⟨A6, c6, rfl⟩ : ∃ A6 c6, u6 = .slice A6 (joinVs (someT ts)).length c6 := by
            rcases ho1.2 with ⟨e0, hn0⟩ | ⟨g, cap, cur, e0, _⟩
            · exact ⟨none, 0, by rw [e0, hn0]⟩
            · exact ⟨some ⟨g, 0, none⟩, cap, e0⟩
          have hrv := RdI.of_own ho1
          have hs4 := hself3.below hbel hself3.lt
          have hb4 := hbel3.trans (hbel.mono hbel3.size)
          have hl6 : (joinVs (someT ts)).length * 8 ≤ 140737488355328 := by
            have := Hsub.out (someT ts) (List.Sublist.refl _)
            omega
          have Hl6 := Lib.hid hl6
          have Hall := Lib.hid hall
          have Hrv := Lib.hid hrv
          clear hl6 hall hrv ho1 hbel hbel3 hself3 Ho
          go_wp2_with fail
          rw [Hall.out]
          refine (clean_fresh (joinCs 1 (someT ts)) A6 _ c6 _ wr _ Hrv.out (Nat.le_refl _) Hl6.out).mono ?_
          rintro e w5 ⟨A7, n7, c7, rfl, hr7, hb7, hf7⟩
          have HF7 : Hid (0 < n7 → ∃ a, A7 = some a ∧ w.heap.size ≤ a.block) := Lib.hid fun h => by obtain ⟨a, e, ha⟩ := hf7 h; exact ⟨a, e, Nat.le_trans hb4.size ha⟩
          clear hf7
          have hs5 := hs4.below hb7 hs4.lt
          have hb5 := hb4.trans (hb7.mono hb4.size)
          generalize cleanT (joinCs 1 (someT ts)) (joinVs (someT ts)) = T at Hj' hr7
          have g0 : w5.cell? ⟨w.heap.size, 0, none⟩ = some (.bool false) := hs5.cell 0
          have g1 : w5.cell? ⟨w.heap.size, 1, none⟩ = some (.int .u8 0) := hs5.cell 1
          have g2 : w5.cell? ⟨w.heap.size, 2, none⟩ = some (.slice none 0 0) := hs5.cell 2
          have p0 := hs5.frozen 0
          have p1 := hs5.frozen 1
          have p2 := hs5.frozen 2
          have Hr7 := Lib.hid hr7
          clear hr7 hs4 hb4 hb7 Hrv
          go_wp2_with fail
          have hs := hs5.set3 (.bool T.never) (.int .u8 T.c) (.slice A7 n7 c7)
          have hb3 := ((hb5.setCell (p := ⟨w.heap.size, 0, none⟩) (Nat.le_refl _) (.bool T.never)).setCell (p := ⟨w.heap.size, 1, none⟩) (Nat.le_refl _) (.int .u8 T.c)).setCell (p := ⟨w.heap.size, 2, none⟩) (Nat.le_refl _) (.slice A7 n7 c7)
          have hr8 := Hr7.out.put3 hs5 (.bool T.never) (.int .u8 T.c) (.slice A7 n7 c7)
          have hr9 := hr8.more (B' := (((w5.setCell ⟨w.heap.size, 0, none⟩ (.bool T.never)).setCell ⟨w.heap.size, 1, none⟩ (.int .u8 T.c)).setCell ⟨w.heap.size, 2, none⟩ (.slice A7 n7 c7)).heap.size) (by simp)
          generalize (((w5.setCell ⟨w.heap.size, 0, none⟩ (.bool T.never)).setCell ⟨w.heap.size, 1, none⟩ (.int .u8 T.c)).setCell ⟨w.heap.size, 2, none⟩ (.slice A7 n7 c7)) = W3 at hs hb3 hr8 hr9 ⊢
          have d0 : W3.cell? ⟨w.heap.size, 0, none⟩ = some (.bool T.never) := hs.cell 0
          have d1 : W3.cell? ⟨w.heap.size, 1, none⟩ = some (.int .u8 T.c) := hs.cell 1
          have d2 : W3.cell? ⟨w.heap.size, 2, none⟩ = some (.slice A7 n7 c7) := hs.cell 2
          exact bodyPost_ret (v := .tuple #[.agg #[.bool T.never, .int .u8 T.c, .slice A7 n7 c7], .int .i64 0]) (by simp [results, Try.results44, go_sem, d0, d1, d2]) rfl (by rw [Hj'.out]; exact ⟨A7, n7, c7, rfl, hr9, hb3, fun h => by obtain ⟨a, e, ha⟩ := HF7.out h; exact ⟨a, e, by omega⟩⟩)



set_option maxHeartbeats 2000000 in
theorem sum_fresh (A : Option Addr) (n c : Nat) (ts : List TermD) (w : World) (hr : TermsV w w.heap.size A n c ts) (hyes : allMay ts = true) (hn : n ≤ 1099511627776) (hsum : ∀ t ∈ ts, t.vars.length ≤ 1099511627776) :
    Calls Try.prog 45 #[.slice A n c] w (RetFE (sumT ts) 0 w) := by
  have Hyes := Lib.hid hyes
  clear hyes
  have hlen := hr.1
  have Hlen := Lib.hid hlen
  clear hlen
  have hbel : Below w.heap.size w (w.alloc (Obj.cells #[.bool false, .int .u8 0, .slice none 0 0] 37)) := (Below.refl _ _).alloc (Nat.le_refl _) _
  have hr1 := (hr.below hbel).more (B' := (w.alloc (Obj.cells #[.bool false, .int .u8 0, .slice none 0 0] 37)).heap.size) hbel.size
  go_enter Try.func45, Try.ntmps45
  go_wp2_with fail
  refine (mays_any A n c ts _ hr1).mono ?_; rintro e w1 ⟨rfl, hb1⟩
  rw [Hyes.out]
  have hr2 := (hr1.below hb1).more hb1.size
  simp only [World.size_alloc] at hb1
  have hself1 : Blk w1 w.heap.size 37 #[.bool false, .int .u8 0, .slice none 0 0] := by
    show w1.heap[w.heap.size]? = _
    rw [hb1.block _ (Nat.lt_succ_self _)]
    exact heap_alloc_new w _
  have hbel1 : Below w.heap.size w w1 := hbel.trans (hb1.mono (Nat.le_succ _))
  have hg1 : w.heap.size < w1.heap.size := hself1.lt
  clear hb1 hr hr1 hbel
  go_wp2_with fail
  refine (clone_any A n c ts _ hr2 (by omega)).mono ?_
  rintro e w2 ⟨v1, rfl, hown1, hf1, hb2⟩
  go_wp2_with fail
  refine (delete_any _ _ enters_sum pred_sum w1.heap.size w1.heap.size n v1 ts _ hown1 (Nat.le_refl _) hb2.size hf1).mono ?_
  rintro e w3 ⟨v2, m, rfl, hf2, hown2, hb3⟩
  obtain ⟨A2, c2, rfl⟩ : ∃ A2 c2, v2 = .slice A2 m c2 := by
    rcases hf2 with ⟨rfl, rfl⟩ | ⟨g, c, rfl⟩
    · exact ⟨none, 0, rfl⟩
    · exact ⟨some ⟨g, 0, none⟩, c, rfl⟩
  have hb23 : Below w1.heap.size w1 w3 := hb2.trans hb3
  have hself3 := hself1.below hb23 hg1
  have hbel3 : Below w.heap.size w w3 := hbel1.trans (hb23.mono hbel1.size)
  have hts := (hown2.terms (Nat.le_trans hb2.size hb3.size)).2
  have hlen2 : (someT ts).length = m := hown2.1
  have Hlen2 := Lib.hid hlen2
  have hge : ∀ b off, A2 = some ⟨b, off, none⟩ → w1.heap.size ≤ b := by
    intro b off e
    obtain ⟨_, cs, ho, _⟩ := hown2
    exact (ho.lt b (by rw [e]; rfl)).1
  have Hge := Lib.hid hge
  clear hge
  have hmn : m ≤ n := by rw [← hlen2, ← Hlen.out]; exact List.length_filter_le _ _
  have hg1' := hg1
  clear hlen2 hown1 hown2 hf1 hf2 hb2 hb3 hb23 hself1 hbel1 hg1 hr2
  have hsom : someT ts = (ts.filter fun t => !(fun t : TermD => t.never) t) := rfl
  rw [← hsom] at hts
  clear hsom
  have c0 : w3.cell? ⟨w.heap.size, 0, none⟩ = some (.bool false) := hself3.cell 0
  have c1 : w3.cell? ⟨w.heap.size, 1, none⟩ = some (.int .u8 0) := hself3.cell 1
  have c2' : w3.cell? ⟨w.heap.size, 2, none⟩ = some (.slice none 0 0) := hself3.cell 2
  have f0 := hself3.frozen 0
  have f1 := hself3.frozen 1
  have f2 := hself3.frozen 2
  by_cases hm0 : m = 0
  · subst hm0
    have hj : sumT ts = ⟨true, 0, []⟩ := by unfold sumT; rw [List.eq_nil_of_length_eq_zero Hlen2.out]
    have Hj := Lib.hid hj
    clear hj
    go_wp2_with fail
    have hs := hself3.set3 (.bool true) (.int .u8 0) (.slice none 0 0)
    have hb3 := ((hbel3.setCell (p := ⟨w.heap.size, 0, none⟩) (Nat.le_refl _) (.bool true)).setCell (p := ⟨w.heap.size, 1, none⟩) (Nat.le_refl _) (.int .u8 0)).setCell (p := ⟨w.heap.size, 2, none⟩) (Nat.le_refl _) (.slice none 0 0)
    generalize (((w3.setCell ⟨w.heap.size, 0, none⟩ (.bool true)).setCell ⟨w.heap.size, 1, none⟩ (.int .u8 0)).setCell ⟨w.heap.size, 2, none⟩ (.slice none 0 0)) = W3 at hs hb3 ⊢
    have d0 : W3.cell? ⟨w.heap.size, 0, none⟩ = some (.bool true) := hs.cell 0
    have d1 : W3.cell? ⟨w.heap.size, 1, none⟩ = some (.int .u8 0) := hs.cell 1
    have d2 : W3.cell? ⟨w.heap.size, 2, none⟩ = some (.slice none 0 0) := hs.cell 2
    exact bodyPost_ret (v := .tuple #[.agg #[.bool true, .int .u8 0, .slice none 0 0], .int .i64 0]) (by simp [results, Try.results45, go_sem, d0, d1, d2]) rfl (by rw [Hj.out]; exact ⟨none, 0, 0, rfl, RdI.nil, hb3, fun h => absurd h (by omega)⟩)
  · by_cases hm1 : m = 1
    · subst hm1
      obtain ⟨t, ht⟩ : ∃ t, someT ts = [t] := List.length_eq_one_iff.1 Hlen2.out
      have hj : sumT ts = cleanT t.c t.vars := by unfold sumT; rw [ht]
      have Hj := Lib.hid hj
      clear hj
      have htm : t ∈ ts := by
        have h1 : t ∈ someT ts := by rw [ht]; simp
        exact (List.mem_filter.1 (show t ∈ ts.filter (fun t => !t.never) from h1)).1
      have hln := hsum t htm
      rw [ht] at hts
      obtain ⟨b, off, rfl, hb, hcell⟩ := hts.2.2.2 (by omega)
      have hbne : b ≠ w.heap.size := by have := Hge.out b off rfl; omega
      obtain ⟨A', n', c', e0, e1, e2, hr'⟩ := hcell 0 (by simp)
      rw [Nat.zero_mul, Nat.add_zero] at e0 e1 e2
      simp only [List.getElem_cons_zero] at e0 e1 e2 hr'
      have hl8 : n' * 8 ≤ 140737488355328 := by rw [← hr'.len]; omega
      have Hl8 := Lib.hid hl8
      have Hr := Lib.hid hr'
      clear hr' hcell hts htm hsum hl8 ht hln c0 c1 c2' f0 f1 f2
      go_wp2_with fail
      go_region_held3 (fun w' => w'.cell? ⟨b, off + 1, none⟩ = some (.int .u8 t.c) ∧ w'.cell? ⟨b, off + 2, none⟩ = some (.slice A' n' c'))
        (first | go_keep | exact ⟨e1, e2⟩ | exact ⟨(hb7.cell (p := ⟨b, off + 1, none⟩) hb).trans e1, (hb7.cell (p := ⟨b, off + 2, none⟩) hb).trans e2⟩ | exact ⟨(set3_other _ _ hbne _ _ _).trans ((hb7.cell (p := ⟨b, off + 1, none⟩) hb).trans e1), (set3_other _ _ hbne _ _ _).trans ((hb7.cell (p := ⟨b, off + 2, none⟩) hb).trans e2)⟩)
        ((go_at_call 73; refine (clean_fresh t.c A' n' c' t.vars w3.drew w3.heap.size (Hr.out.keep (w' := w3.drew) fun _ _ => rfl) (Nat.le_refl _) Hl8.out).mono ?_; rintro e w5 ⟨A7, n7, c7, rfl, hr7, hb7, hf7⟩; have HF7 : Hid (0 < n7 → ∃ a, A7 = some a ∧ w.heap.size ≤ a.block) := Lib.hid (fun h => by obtain ⟨a, e, ha⟩ := hf7 h; exact ⟨a, e, Nat.le_trans hbel3.size ha⟩);
          replace hb7 : Below w3.heap.size w3 w5 := ((Below.refl _ _).drew).trans hb7; have hs5 := hself3.below hb7 hself3.lt; have hb5 := hbel3.trans (hb7.mono hbel3.size); generalize cleanT t.c t.vars = T at Hj hr7;
          have g0 : w5.cell? ⟨w.heap.size, 0, none⟩ = some (.bool false) := hs5.cell 0; have g1 : w5.cell? ⟨w.heap.size, 1, none⟩ = some (.int .u8 0) := hs5.cell 1; have g2 : w5.cell? ⟨w.heap.size, 2, none⟩ = some (.slice none 0 0) := hs5.cell 2;
          have p0 := hs5.frozen 0; have p1 := hs5.frozen 1; have p2 := hs5.frozen 2))
      have Hr7 := Lib.hid hr7
      clear hr7 hself3 hbel3 hb7 Hr
      try go_wp2_with fail
      have hs := hs5.set3 (.bool T.never) (.int .u8 T.c) (.slice A7 n7 c7)
      have hb3 := ((hb5.setCell (p := ⟨w.heap.size, 0, none⟩) (Nat.le_refl _) (.bool T.never)).setCell (p := ⟨w.heap.size, 1, none⟩) (Nat.le_refl _) (.int .u8 T.c)).setCell (p := ⟨w.heap.size, 2, none⟩) (Nat.le_refl _) (.slice A7 n7 c7)
      have hr8 := Hr7.out.put3 hs5 (.bool T.never) (.int .u8 T.c) (.slice A7 n7 c7)
      have hr9 := hr8.more (B' := (((w5.setCell ⟨w.heap.size, 0, none⟩ (.bool T.never)).setCell ⟨w.heap.size, 1, none⟩ (.int .u8 T.c)).setCell ⟨w.heap.size, 2, none⟩ (.slice A7 n7 c7)).heap.size) (by simp)
      generalize (((w5.setCell ⟨w.heap.size, 0, none⟩ (.bool T.never)).setCell ⟨w.heap.size, 1, none⟩ (.int .u8 T.c)).setCell ⟨w.heap.size, 2, none⟩ (.slice A7 n7 c7)) = W3 at hs hb3 hr8 hr9 ⊢
      have d0 : W3.cell? ⟨w.heap.size, 0, none⟩ = some (.bool T.never) := hs.cell 0
      have d1 : W3.cell? ⟨w.heap.size, 1, none⟩ = some (.int .u8 T.c) := hs.cell 1
      have d2 : W3.cell? ⟨w.heap.size, 2, none⟩ = some (.slice A7 n7 c7) := hs.cell 2
      exact bodyPost_ret (v := .tuple #[.agg #[.bool T.never, .int .u8 T.c, .slice A7 n7 c7], .int .i64 0]) (by simp [results, Try.results45, go_sem, d0, d1, d2]) rfl (by rw [Hj.out]; exact ⟨A7, n7, c7, rfl, hr9, hb3, fun h => by obtain ⟨a, e, ha⟩ := HF7.out h; exact ⟨a, e, by omega⟩⟩)
    · have hj : sumT ts = ⟨false, 3, []⟩ := by
        unfold sumT
        have := Hlen2.out
        split
        · rename_i h; rw [h] at this; simp at this; omega
        · rename_i h; rw [h] at this; simp at this; omega
        · rfl
      have Hj := Lib.hid hj
      have hz0 : ((m : Int) == 0) = false := beq_eq_false_iff_ne.2 (by omega)
      have hz1 : ((m : Int) == 1) = false := beq_eq_false_iff_ne.2 (by omega)
      clear hj hts hsum
      go_wp2_with fail
      have hs := hself3.set3 (.bool false) (.int .u8 3) (.slice none 0 0)
      have hb3 := ((hbel3.setCell (p := ⟨w.heap.size, 0, none⟩) (Nat.le_refl _) (.bool false)).setCell (p := ⟨w.heap.size, 1, none⟩) (Nat.le_refl _) (.int .u8 3)).setCell (p := ⟨w.heap.size, 2, none⟩) (Nat.le_refl _) (.slice none 0 0)
      generalize (((w3.setCell ⟨w.heap.size, 0, none⟩ (.bool false)).setCell ⟨w.heap.size, 1, none⟩ (.int .u8 3)).setCell ⟨w.heap.size, 2, none⟩ (.slice none 0 0)) = W3 at hs hb3 ⊢
      have d0 : W3.cell? ⟨w.heap.size, 0, none⟩ = some (.bool false) := hs.cell 0
      have d1 : W3.cell? ⟨w.heap.size, 1, none⟩ = some (.int .u8 3) := hs.cell 1
      have d2 : W3.cell? ⟨w.heap.size, 2, none⟩ = some (.slice none 0 0) := hs.cell 2
      exact bodyPost_ret (v := .tuple #[.agg #[.bool false, .int .u8 3, .slice none 0 0], .int .i64 0]) (by simp [results, Try.results45, go_sem, d0, d1, d2]) rfl (by rw [Hj.out]; exact ⟨none, 0, 0, rfl, RdI.nil, hb3, fun h => absurd h (by omega)⟩)



set_option maxRecDepth 100000 in
set_option maxHeartbeats 1000000 in
theorem scale_fresh (c v : Int) (tv : Value) (t : TermD) (w : World) (B : Nat) (hv : TermV w B tv t) (hB : B ≤ w.heap.size) (h1 : isB c v = true) (h2 : mayB t = true) (hbig : t.vars.length ≤ 1099511627776) :
    Calls Try.prog 59 #[.agg #[.int .i64 v, .int .u8 c], tv] w (RetFE (scaleT c v t) 0 w) := by
  have hmx := @run_max2 Try.prog
  obtain ⟨A, n, cp, rfl, hr⟩ := hv
  obtain ⟨hb0, hs0, hm0, ht0, hz0⟩ := W0_facts c v t A n cp w
  have Hs0 := Lib.hid hs0
  have hq := is_any c v (W0 c v t A n cp w)
  have Hq := Lib.hid hq
  have hlv := hr.len
  have Hlv := Lib.hid hlv
  have Hbig := Lib.hid hbig
  have He := Lib.hid (isE_yes h1)
  have HN : Hid (t.never = true → n = 0) := Lib.hid fun h => by
    have := h2
    unfold mayB at this
    simp only [h, if_true, Bool.and_eq_true, beq_iff_eq, List.isEmpty_iff] at this
    rw [← hlv, this.2]; rfl
  have He2 := Lib.hid (mayE_yes h2)
  clear hq h1 h2 hlv hbig
  go_enter Try.func59, Try.ntmps59
  go_wp2_with fail
  refine Hq.out.mono ?_; rintro e w1 ⟨rfl, hb1⟩
  rw [He.out]
  have hm1 := hm0.below hb1 (by omega)
  have hz1 := hz0.below hb1 (by omega)
  have ht1 := ht0.below hb1 (by omega)
  have hbel := hb0.trans (hb1.mono (by omega))
  have hr1 := (hr.more hB).below hbel
  have hg1 : w.heap.size + 3 ≤ w1.heap.size := by have := hb1.size; omega
  have hq2 := may_any (.agg #[.bool t.never, .int .u8 t.c, .slice A n cp]) t w1 w.heap.size ⟨A, n, cp, rfl, hr1⟩ (by omega)
  have Hq2 := Lib.hid hq2
  have x0 : w1.cell? ⟨w.heap.size + 1, 0, none⟩ = some (.bool t.never) := ht1.cell 0
  have x1 : w1.cell? ⟨w.heap.size + 1, 1, none⟩ = some (.int .u8 t.c) := ht1.cell 1
  have x2 : w1.cell? ⟨w.heap.size + 1, 2, none⟩ = some (.slice A n cp) := ht1.cell 2
  clear hs0 hq2
  go_wp2_with fail
  refine Hq2.out.mono ?_; rintro e w2 ⟨rfl, hb2⟩
  rw [He2.out]
  have hm2 := hm1.below hb2 (by omega)
  have hz2 := hz1.below hb2 (by omega)
  have ht2 := ht1.below hb2 (by omega)
  have hbel2 := hbel.trans (hb2.mono (by omega))
  have hr2 := hr1.below (hb2.mono (by omega))
  have hg2 : w.heap.size + 3 ≤ w2.heap.size := by have := hb2.size; omega
  clear x0 x1 x2 hb0 hm0 ht0 hz0 hb1 hm1 hz1 ht1 hbel hr hr1 Hq Hq2 He He2 hb2
  have z0 : w2.cell? ⟨w.heap.size + 1 + 1, 0, none⟩ = some (.bool false) := hz2.cell 0
  have z1 : w2.cell? ⟨w.heap.size + 1 + 1, 1, none⟩ = some (.int .u8 0) := hz2.cell 1
  have z2 : w2.cell? ⟨w.heap.size + 1 + 1, 2, none⟩ = some (.slice none 0 0) := hz2.cell 2
  have f0 := hz2.frozen 0
  have f1 := hz2.frozen 1
  have f2 := hz2.frozen 2
  have m0 : w2.cell? ⟨w.heap.size, 0, none⟩ = some (.int .i64 v) := hm2.cell 0
  have m1 : w2.cell? ⟨w.heap.size, 1, none⟩ = some (.int .u8 c) := hm2.cell 1
  cases htn : t.never
  · rw [htn] at ht2
    have y0 : w2.cell? ⟨w.heap.size + 1, 0, none⟩ = some (.bool false) := ht2.cell 0
    have y1 : w2.cell? ⟨w.heap.size + 1, 1, none⟩ = some (.int .u8 t.c) := ht2.cell 1
    have y2 : w2.cell? ⟨w.heap.size + 1, 2, none⟩ = some (.slice A n cp) := ht2.cell 2
    by_cases hc : c = 0
    · have hcb : (c == 0) = true := by simp [hc]
      have hj : scaleT c v t = cleanT t.c (t.vars ++ [v]) := by unfold scaleT; rw [htn, if_neg (by simp), if_pos hc]
      have Hj := Lib.hid hj
      have Hl8 : Hid (n * 8 ≤ 140737488355328) := by show n * 8 ≤ 140737488355328; have := Hbig.out; rw [Hlv.out] at this; omega
      have Hl9 : Hid ((n + 1) * 8 ≤ 140737488355328) := by show (n + 1) * 8 ≤ 140737488355328; have := Hbig.out; rw [Hlv.out] at this; omega
      have Hn63 : Hid (n + 1 ≤ maxLen) := by show n + 1 ≤ 9223372036854775807; have := Hbig.out; rw [Hlv.out] at this; omega
      obtain ⟨i0, hi0, hi1, hi2, hi3⟩ := info_parts intInfo
      have hnb : w.heap.size + 1 ≠ w.heap.size + 1 + 1 := by omega
      have hnb0 : w.heap.size ≠ w.heap.size + 1 + 1 := by omega
      have hl1 : w.heap.size + 1 < w2.heap.size := by omega
      have hl0 : w.heap.size < w2.heap.size := by omega
      have hx : ∀ w', Below w2.heap.size w2 w' → w'.cell? ⟨w.heap.size + 1, 1, none⟩ = some (.int .u8 t.c) ∧ w'.cell? ⟨w.heap.size + 1, 2, none⟩ = some (.slice A n cp) ∧ w'.cell? ⟨w.heap.size, 0, none⟩ = some (.int .i64 v) :=
        fun w' hb => ⟨(hb.cell (p := ⟨w.heap.size + 1, 1, none⟩) hl1).trans y1, (hb.cell (p := ⟨w.heap.size + 1, 2, none⟩) hl1).trans y2, (hb.cell (p := ⟨w.heap.size, 0, none⟩) hl0).trans m0⟩
      have Hx := Lib.hid hx
      have Hr2 := Lib.hid hr2
      clear hj htn hr2 hx
      go_wp2_with fail
      go_region_held3 (fun w' => w'.cell? ⟨w.heap.size + 1, 1, none⟩ = some (.int .u8 t.c) ∧ w'.cell? ⟨w.heap.size + 1, 2, none⟩ = some (.slice A n cp) ∧ w'.cell? ⟨w.heap.size, 0, none⟩ = some (.int .i64 v))
        (first | (go_keep; done) | (refine ⟨?_, ?_, ?_⟩ <;> (go_keep; done)) | exact Hx.out _ (Below.refl _ _).drew | exact Hx.out _ hbx | exact Hx.out _ ((Below.refl _ _).drew.alloc (Nat.le_refl _) _) | exact Hx.out _ (hbx.alloc hbx.size _) | exact ⟨(set3_other _ _ hnb _ _ _).trans (Hx.out _ hbx).1, (set3_other _ _ hnb _ _ _).trans (Hx.out _ hbx).2.1, (set3_other _ _ hnb0 _ _ _).trans (Hx.out _ hbx).2.2⟩)
        (first
          | (go_at_call 67; refine (cloneI_any A n cp t.vars w2.drew w.heap.size (Hr2.out.keep (w' := w2.drew) fun _ _ => rfl) Hl8.out).mono ?_; rintro e w3 ⟨A3, c3, rfl, hown3, hb3⟩; have hbx : Below w2.heap.size w2 w3 := ((Below.refl _ _).drew).trans hb3)
          | (go_at_call 67; refine (cloneI_any A n cp t.vars (w2.drew.alloc (Obj.cells #[.int .i64 v] 3)) w.heap.size (Hr2.out.keep (w' := w2.drew.alloc (Obj.cells #[.int .i64 v] 3)) fun p hp => ((Below.refl w2.heap.size w2).drew.alloc (Nat.le_refl _) _).cell (by omega)) Hl8.out).mono ?_; rintro e w3 ⟨A3, c3, rfl, hown3, hb3⟩; have hbx : Below w2.heap.size w2 w3 := ((Below.refl w2.heap.size w2).drew.alloc (Nat.le_refl _) _).trans (hb3.mono (by simp)))
          | (refine step_append_rd (o := ⟨some 40, _, _, _, _, _⟩) _ (by rfl) (.tmp 36) (.tmp 39) 35 (by rfl) w2.heap.size 3 i0 _ 1 8 Try.underlying35 hi0 hi1 hi2 hi3 rfl (by omega) (.slice A3 n c3) n (t.vars.map (Value.int .i64)) (by rfl) (hown3.alloc _) (w3.heap.size + 1) (some ⟨w3.heap.size, 0, none⟩) 1 1 [.int .i64 v] (by rfl) (rd_new1 _ _ _) (by intro u hu; simp at hu; subst hu; rfl) Hn63.out Hl9.out (by have := hbx.size; simp; omega) ?_; intro v4 w4 ho4 hg4 hat4;
              have hbx := (hbx.alloc hbx.size (Obj.cells #[.int .i64 v] 3)).grown hg4 (by have := hbx.size; simp; omega) (fun j hj => (hown3.lt j hj).1);
              obtain ⟨A4, c4, rfl, hr4⟩ := own_slice ho4)
          | (refine step_append_rd (o := ⟨some 40, _, _, _, _, _⟩) _ (by rfl) (.tmp 36) (.tmp 39) 35 (by rfl) (w2.drew.alloc (Obj.cells #[.int .i64 v] 3)).heap.size 3 i0 _ 1 8 Try.underlying35 hi0 hi1 hi2 hi3 rfl (by omega) (.slice A3 n c3) n (t.vars.map (Value.int .i64)) (by rfl) hown3 (w2.heap.size + 1) (some ⟨w2.heap.size, 0, none⟩) 1 1 [.int .i64 v] (by rfl) ((rd_new1 w2.drew (.int .i64 v) 3).keep fun p hp => hb3.cell (by have hp' : p.block < w2.heap.size + 1 := hp; simpa using hp')) (by intro u hu; simp at hu; subst hu; rfl) Hn63.out Hl9.out hb3.size ?_; intro v4 w4 ho4 hg4 hat4;
              have hbx := hbx.grown hg4 hbx.size (fun j hj => by have := (hown3.lt j hj).1; simp at this; omega);
              obtain ⟨A4, c4, rfl, hr4⟩ := own_slice ho4)
          | (go_at_call 73; refine (clean_fresh t.c A4 (n + 1) c4 (t.vars ++ [v]) w4 w4.heap.size hr4 (Nat.le_refl _) Hl9.out).mono ?_; rintro e w5 ⟨A7, n7, c7, rfl, hr7, hb7, hf7⟩; have HF7 : Hid (0 < n7 → ∃ a, A7 = some a ∧ w.heap.size ≤ a.block) := Lib.hid (fun h => by obtain ⟨a, e, ha⟩ := hf7 h; exact ⟨a, e, Nat.le_trans hbel2.size (Nat.le_trans hbx.size ha)⟩); clear hf7;
              have hbx := hbx.trans (hb7.mono hbx.size); have hz5 := hz2.below hbx hz2.lt; generalize cleanT t.c (t.vars ++ [v]) = T at Hj hr7;
              have g0 : w5.cell? ⟨w.heap.size + 1 + 1, 0, none⟩ = some (.bool false) := hz5.cell 0; have g1 : w5.cell? ⟨w.heap.size + 1 + 1, 1, none⟩ = some (.int .u8 0) := hz5.cell 1; have g2 : w5.cell? ⟨w.heap.size + 1 + 1, 2, none⟩ = some (.slice none 0 0) := hz5.cell 2;
              have p0 := hz5.frozen 0; have p1 := hz5.frozen 1; have p2 := hz5.frozen 2))
      all_goals
        have hb5 := hbel2.trans (hbx.mono (by omega))
        have Hr7 := Lib.hid hr7
        go_wp2_with fail
        have hs := hz5.set3 (.bool T.never) (.int .u8 T.c) (.slice A7 n7 c7)
        have hb3 := ((hb5.setCell (p := ⟨w.heap.size + 1 + 1, 0, none⟩) (by show w.heap.size ≤ w.heap.size + 1 + 1; omega) (.bool T.never)).setCell (p := ⟨w.heap.size + 1 + 1, 1, none⟩) (by show w.heap.size ≤ w.heap.size + 1 + 1; omega) (.int .u8 T.c)).setCell (p := ⟨w.heap.size + 1 + 1, 2, none⟩) (by show w.heap.size ≤ w.heap.size + 1 + 1; omega) (.slice A7 n7 c7)
        have hr8 := Hr7.out.put3 hz5 (.bool T.never) (.int .u8 T.c) (.slice A7 n7 c7)
        have hr9 := hr8.more (B' := (((w5.setCell ⟨w.heap.size + 1 + 1, 0, none⟩ (.bool T.never)).setCell ⟨w.heap.size + 1 + 1, 1, none⟩ (.int .u8 T.c)).setCell ⟨w.heap.size + 1 + 1, 2, none⟩ (.slice A7 n7 c7)).heap.size) (by simp)
        generalize (((w5.setCell ⟨w.heap.size + 1 + 1, 0, none⟩ (.bool T.never)).setCell ⟨w.heap.size + 1 + 1, 1, none⟩ (.int .u8 T.c)).setCell ⟨w.heap.size + 1 + 1, 2, none⟩ (.slice A7 n7 c7)) = W3 at hs hb3 hr9 ⊢
        have d0 : W3.cell? ⟨w.heap.size + 1 + 1, 0, none⟩ = some (.bool T.never) := hs.cell 0
        have d1 : W3.cell? ⟨w.heap.size + 1 + 1, 1, none⟩ = some (.int .u8 T.c) := hs.cell 1
        have d2 : W3.cell? ⟨w.heap.size + 1 + 1, 2, none⟩ = some (.slice A7 n7 c7) := hs.cell 2
        exact bodyPost_ret (v := .tuple #[.agg #[.bool T.never, .int .u8 T.c, .slice A7 n7 c7], .int .i64 0]) (by simp [results, Try.results59, go_sem, d0, d1, d2]) rfl (by rw [Hj.out]; exact ⟨A7, n7, c7, rfl, hr9, hb3, fun h => by obtain ⟨a, e, ha⟩ := HF7.out h; exact ⟨a, e, by omega⟩⟩)
    · have hcb : (c == 0) = false := by simp [hc]
      have hj : scaleT c v t = cleanT (max c t.c) t.vars := by unfold scaleT; rw [htn, if_neg (by simp), if_neg hc]
      have Hj := Lib.hid hj
      clear hj htn
      have Hl8 : Hid (n * 8 ≤ 140737488355328) := by show n * 8 ≤ 140737488355328; have := Hbig.out; rw [Hlv.out] at this; omega
      have Hr2 := Lib.hid hr2
      clear hr2
      go_wp2_with fail
      refine (clean_fresh (max c t.c) A n cp t.vars w2 w.heap.size Hr2.out (by omega) Hl8.out).mono ?_
      rintro e w5 ⟨A7, n7, c7, rfl, hr7, hb7, hf7⟩
      have HF7 : Hid (0 < n7 → ∃ a, A7 = some a ∧ w.heap.size ≤ a.block) := Lib.hid (fun h => by obtain ⟨a, e, ha⟩ := hf7 h; exact ⟨a, e, Nat.le_trans hbel2.size ha⟩)
      clear hf7
      have hz5 := hz2.below hb7 hz2.lt
      have hb5 := hbel2.trans (hb7.mono (by omega))
      generalize cleanT (max c t.c) t.vars = T at Hj hr7
      have g0 : w5.cell? ⟨w.heap.size + 1 + 1, 0, none⟩ = some (.bool false) := hz5.cell 0
      have g1 : w5.cell? ⟨w.heap.size + 1 + 1, 1, none⟩ = some (.int .u8 0) := hz5.cell 1
      have g2 : w5.cell? ⟨w.heap.size + 1 + 1, 2, none⟩ = some (.slice none 0 0) := hz5.cell 2
      have p0 := hz5.frozen 0
      have p1 := hz5.frozen 1
      have p2 := hz5.frozen 2
      have Hr7 := Lib.hid hr7
      clear hr7 hz2 hbel2 hb7 Hr2 f0 f1 f2 z0 z1 z2 y0 y1 y2 m0 m1
      go_wp2_with fail
      have hs := hz5.set3 (.bool T.never) (.int .u8 T.c) (.slice A7 n7 c7)
      have hb3 := ((hb5.setCell (p := ⟨w.heap.size + 1 + 1, 0, none⟩) (by show w.heap.size ≤ w.heap.size + 1 + 1; omega) (.bool T.never)).setCell (p := ⟨w.heap.size + 1 + 1, 1, none⟩) (by show w.heap.size ≤ w.heap.size + 1 + 1; omega) (.int .u8 T.c)).setCell (p := ⟨w.heap.size + 1 + 1, 2, none⟩) (by show w.heap.size ≤ w.heap.size + 1 + 1; omega) (.slice A7 n7 c7)
      have hr8 := Hr7.out.put3 hz5 (.bool T.never) (.int .u8 T.c) (.slice A7 n7 c7)
      have hr9 := hr8.more (B' := (((w5.setCell ⟨w.heap.size + 1 + 1, 0, none⟩ (.bool T.never)).setCell ⟨w.heap.size + 1 + 1, 1, none⟩ (.int .u8 T.c)).setCell ⟨w.heap.size + 1 + 1, 2, none⟩ (.slice A7 n7 c7)).heap.size) (by simp)
      generalize (((w5.setCell ⟨w.heap.size + 1 + 1, 0, none⟩ (.bool T.never)).setCell ⟨w.heap.size + 1 + 1, 1, none⟩ (.int .u8 T.c)).setCell ⟨w.heap.size + 1 + 1, 2, none⟩ (.slice A7 n7 c7)) = W3 at hs hb3 hr9 ⊢
      have d0 : W3.cell? ⟨w.heap.size + 1 + 1, 0, none⟩ = some (.bool T.never) := hs.cell 0
      have d1 : W3.cell? ⟨w.heap.size + 1 + 1, 1, none⟩ = some (.int .u8 T.c) := hs.cell 1
      have d2 : W3.cell? ⟨w.heap.size + 1 + 1, 2, none⟩ = some (.slice A7 n7 c7) := hs.cell 2
      exact bodyPost_ret (v := .tuple #[.agg #[.bool T.never, .int .u8 T.c, .slice A7 n7 c7], .int .i64 0]) (by simp [results, Try.results59, go_sem, d0, d1, d2]) rfl (by rw [Hj.out]; exact ⟨A7, n7, c7, rfl, hr9, hb3, fun h => by obtain ⟨a, e, ha⟩ := HF7.out h; exact ⟨a, e, by omega⟩⟩)
  · rw [htn] at ht2
    have y0 : w2.cell? ⟨w.heap.size + 1, 0, none⟩ = some (.bool true) := ht2.cell 0
    have y1 : w2.cell? ⟨w.heap.size + 1, 1, none⟩ = some (.int .u8 t.c) := ht2.cell 1
    have y2 : w2.cell? ⟨w.heap.size + 1, 2, none⟩ = some (.slice A n cp) := ht2.cell 2
    have HNn := Lib.hid (HN.out htn)
    have hj : scaleT c v t = ⟨true, t.c, t.vars⟩ := by unfold scaleT; rw [if_pos htn]; cases t; simp at htn; subst htn; rfl
    have Hj := Lib.hid hj
    clear hj htn
    go_wp2_with fail
    have hs := hz2.set3 (.bool true) (.int .u8 t.c) (.slice A n cp)
    have hb3 := ((hbel2.setCell (p := ⟨w.heap.size + 1 + 1, 0, none⟩) (by show w.heap.size ≤ w.heap.size + 1 + 1; omega) (.bool true)).setCell (p := ⟨w.heap.size + 1 + 1, 1, none⟩) (by show w.heap.size ≤ w.heap.size + 1 + 1; omega) (.int .u8 t.c)).setCell (p := ⟨w.heap.size + 1 + 1, 2, none⟩) (by show w.heap.size ≤ w.heap.size + 1 + 1; omega) (.slice A n cp)
    have hr8 := (hr2.more (B' := w2.heap.size) (by omega)).put3 hz2 (.bool true) (.int .u8 t.c) (.slice A n cp)
    have hr9 := hr8.more (B' := (((w2.setCell ⟨w.heap.size + 1 + 1, 0, none⟩ (.bool true)).setCell ⟨w.heap.size + 1 + 1, 1, none⟩ (.int .u8 t.c)).setCell ⟨w.heap.size + 1 + 1, 2, none⟩ (.slice A n cp)).heap.size) (by simp)
    generalize (((w2.setCell ⟨w.heap.size + 1 + 1, 0, none⟩ (.bool true)).setCell ⟨w.heap.size + 1 + 1, 1, none⟩ (.int .u8 t.c)).setCell ⟨w.heap.size + 1 + 1, 2, none⟩ (.slice A n cp)) = W3 at hs hb3 hr9 ⊢
    have d0 : W3.cell? ⟨w.heap.size + 1 + 1, 0, none⟩ = some (.bool true) := hs.cell 0
    have d1 : W3.cell? ⟨w.heap.size + 1 + 1, 1, none⟩ = some (.int .u8 t.c) := hs.cell 1
    have d2 : W3.cell? ⟨w.heap.size + 1 + 1, 2, none⟩ = some (.slice A n cp) := hs.cell 2
    exact bodyPost_ret (v := .tuple #[.agg #[.bool true, .int .u8 t.c, .slice A n cp], .int .i64 0]) (by simp [results, Try.results59, go_sem, d0, d1, d2]) rfl (by rw [Hj.out]; exact ⟨A, n, cp, rfl, hr9, hb3, fun h => absurd h (by rw [HNn.out]; omega)⟩)


end Go.Proofs.Ytimlbpjdgnapoaa
