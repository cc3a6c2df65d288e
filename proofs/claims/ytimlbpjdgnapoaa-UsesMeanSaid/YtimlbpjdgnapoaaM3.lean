/- Texts of this claim, laid one behind the other: TermG, TermH, TermI, TermJ, TermK. -/
import Derived.Test.YtimlbpjdgnapoaaM2
import Derived.Test.YtimlbpjdgnapoaaM1
import Derived.Deep.RegionHeld3
import Derived.Lib.CleanWalkFns
/- The contract of term.Join. -/
namespace Go.Proofs.Ytimlbpjdgnapoaa
set_option linter.unusedVariables false
set_option linter.unusedSimpArgs false
open Go.RowKit

theorem pred_join : Pred 72 (fun t => t.never) := by
  intro A n c t w B hr hB
  obtain ⟨nv, tc, vs⟩ := t
  go_enter Try.func72, Try.ntmps72
  go_wp2_with fail
  go_ret
  exact ⟨rfl, (Below.refl _ _).alloc (Nat.le_refl _) _⟩
theorem pred_sum : Pred 74 (fun t => t.never) := by
  intro A n c t w B hr hB
  obtain ⟨nv, tc, vs⟩ := t
  go_enter Try.func74, Try.ntmps74
  go_wp2_with fail
  go_ret
  exact ⟨rfl, (Below.refl _ _).alloc (Nat.le_refl _) _⟩
theorem intInfo : (Try.prog.info? 3).map (fun i => (i.zero, i.size, i.bytes)) = some (some (.int .i64 0), 1, 8) := by kernel_rfl

theorem joinCs_snoc (c : Int) (l : List TermD) (t : TermD) : joinCs c (l ++ [t]) = max (joinCs c l) t.c := by simp [joinCs, List.foldl_append]
theorem joinVs_snoc (l : List TermD) (t : TermD) : joinVs (l ++ [t]) = joinVs l ++ t.vars := by simp [joinVs]
theorem joinVs_le (l : List TermD) : (joinVs l).length = (l.map (·.vars.length)).sum := by
  induction l with
  | nil => rfl
  | cons t l ih => simp only [joinVs, List.flatMap_cons, List.length_append, List.map_cons, List.sum_cons] at ih ⊢; omega

theorem joinVs_sub {l l' : List TermD} (h : List.Sublist l l') : (joinVs l).length ≤ (joinVs l').length := by
  induction h with
  | slnil => exact Nat.le_refl _
  | cons a _ ih =>
    simp only [joinVs, List.flatMap_cons, List.length_append] at ih ⊢
    omega
  | cons_cons a _ ih =>
    simp only [joinVs, List.flatMap_cons, List.length_append] at ih ⊢
    omega

set_option maxHeartbeats 1000000 in
theorem join_no (A : Option Addr) (n c : Nat) (ts : List TermD) (w : World) (hr : TermsV w w.heap.size A n c ts) (hno : allMay ts = false) :
    Calls Try.prog 44 #[.slice A n c] w (RetTE zeroT 2 w) := by
  have Hno := Lib.hid hno
  clear hno
  have hbel : Below w.heap.size w (w.alloc (Obj.cells #[.bool false, .int .u8 0, .slice none 0 0] 37)) := (Below.refl _ _).alloc (Nat.le_refl _) _
  have hr1 := (hr.below hbel).more (B' := (w.alloc (Obj.cells #[.bool false, .int .u8 0, .slice none 0 0] 37)).heap.size) hbel.size
  go_enter Try.func44, Try.ntmps44
  go_wp2_with fail
  refine (mays_any A n c ts _ hr1).mono ?_; rintro e w1 ⟨rfl, hb1⟩
  rw [Hno.out]
  have hb1' := hb1
  simp only [World.size_alloc] at hb1'
  have hself : Blk w1 w.heap.size 37 #[.bool false, .int .u8 0, .slice none 0 0] := by
    show w1.heap[w.heap.size]? = _
    rw [hb1'.block _ (Nat.lt_succ_self _)]
    exact heap_alloc_new w _
  have hbel1 : Below w.heap.size w w1 := hbel.trans (hb1.mono hbel.size)
  have c0 : w1.cell? ⟨w.heap.size, 0, none⟩ = some (.bool false) := hself.cell 0
  have c1 : w1.cell? ⟨w.heap.size, 1, none⟩ = some (.int .u8 0) := hself.cell 1
  have c2 : w1.cell? ⟨w.heap.size, 2, none⟩ = some (.slice none 0 0) := hself.cell 2
  have f0 := hself.frozen 0
  have f1 := hself.frozen 1
  have f2 := hself.frozen 2
  clear hb1 hb1' hr hr1 hbel
  go_wp2_with fail
  have hs := hself.set3 (.bool false) (.int .u8 0) (.slice none 0 0)
  have hb3 := ((hbel1.setCell (p := ⟨w.heap.size, 0, none⟩) (Nat.le_refl _) (.bool false)).setCell (p := ⟨w.heap.size, 1, none⟩) (Nat.le_refl _) (.int .u8 0)).setCell (p := ⟨w.heap.size, 2, none⟩) (Nat.le_refl _) (.slice none 0 0)
  generalize (((w1.setCell ⟨w.heap.size, 0, none⟩ (.bool false)).setCell ⟨w.heap.size, 1, none⟩ (.int .u8 0)).setCell ⟨w.heap.size, 2, none⟩ (.slice none 0 0)) = W3 at hs hb3 ⊢
  have d0 : W3.cell? ⟨w.heap.size, 0, none⟩ = some (.bool false) := hs.cell 0
  have d1 : W3.cell? ⟨w.heap.size, 1, none⟩ = some (.int .u8 0) := hs.cell 1
  have d2 : W3.cell? ⟨w.heap.size, 2, none⟩ = some (.slice none 0 0) := hs.cell 2
  exact bodyPost_ret (v := .tuple #[.agg #[.bool false, .int .u8 0, .slice none 0 0], .int .i64 2]) (by simp [results, Try.results44, go_sem, d0, d1, d2]) rfl ⟨none, 0, 0, rfl, RdI.nil, hb3⟩

set_option maxHeartbeats 2000000 in
theorem join_yes (A : Option Addr) (n c : Nat) (ts : List TermD) (w : World) (hr : TermsV w w.heap.size A n c ts) (hyes : allMay ts = true) (hn : n ≤ 1099511627776) (hsum : (joinVs ts).length ≤ 1099511627776) :
    Calls Try.prog 44 #[.slice A n c] w (RetTE (joinT ts) 0 w) := by
  have hmx := @run_max2 Try.prog
  have Hyes := Lib.hid hyes
  clear hyes
  have hlen := hr.1
  have Hlen := Lib.hid hlen
  clear hlen
  have hbel : Below w.heap.size w (w.alloc (Obj.cells #[.bool false, .int .u8 0, .slice none 0 0] 37)) := (Below.refl _ _).alloc (Nat.le_refl _) _
  have hr1 := (hr.below hbel).more (B' := (w.alloc (Obj.cells #[.bool false, .int .u8 0, .slice none 0 0] 37)).heap.size) hbel.size
  go_enter Try.func44, Try.ntmps44
  go_wp2_with fail
  refine (mays_any A n c ts _ hr1).mono ?_; rintro e w1 ⟨rfl, hb1⟩
  rw [Hyes.out]
  have hr2 := (hr1.below hb1).more hb1.size
  simp only [World.size_alloc] at hb1
  have hself1 : Blk w1 w.heap.size 37 #[.bool false, .int .u8 0, .slice none 0 0] := by
    show w1.heap[w.heap.size]? = _
    rw [hb1.block _ (Nat.lt_succ_self _)]
    exact heap_alloc_new w _
  have hbel1 : Below w.heap.size w w1 := hbel.trans (hb1.mono (Nat.le_succ _))
  have hg1 : w.heap.size < w1.heap.size := hself1.lt
  clear hb1 hr hr1 hbel
  go_wp2_with fail
  refine (clone_any A n c ts _ hr2 (by omega)).mono ?_
  rintro e w2 ⟨v1, rfl, hown1, hf1, hb2⟩
  go_wp2_with fail
  refine (delete_any _ _ enters_join pred_join w1.heap.size w1.heap.size n v1 ts _ hown1 (Nat.le_refl _) hb2.size hf1).mono ?_
  rintro e w3 ⟨v2, m, rfl, hf2, hown2, hb3⟩
  obtain ⟨A2, c2, rfl⟩ : ∃ A2 c2, v2 = .slice A2 m c2 := by
    rcases hf2 with ⟨rfl, rfl⟩ | ⟨g, c, rfl⟩
    · exact ⟨none, 0, rfl⟩
    · exact ⟨some ⟨g, 0, none⟩, c, rfl⟩
  have hb23 : Below w1.heap.size w1 w3 := hb2.trans hb3
  have hself3 := hself1.below hb23 hg1
  have hbel3 : Below w.heap.size w w3 := hbel1.trans (hb23.mono hbel1.size)
  have hts := (hown2.terms (Nat.le_trans hb2.size hb3.size)).2
  have hlen2 : (someT ts).length = m := hown2.1
  have Hlen2 := Lib.hid hlen2
  have hmn : m ≤ n := by rw [← hlen2, ← Hlen.out]; exact List.length_filter_le _ _
  clear hlen2 hown1 hown2 hf1 hf2 hb2 hb3 hb23 hself1 hbel1 hg1 hr2
  have hsom : someT ts = (ts.filter fun t => !(fun t : TermD => t.never) t) := rfl
  rw [← hsom] at hts
  clear hsom
  have c0 : w3.cell? ⟨w.heap.size, 0, none⟩ = some (.bool false) := hself3.cell 0
  have c1 : w3.cell? ⟨w.heap.size, 1, none⟩ = some (.int .u8 0) := hself3.cell 1
  have c2' : w3.cell? ⟨w.heap.size, 2, none⟩ = some (.slice none 0 0) := hself3.cell 2
  have f0 := hself3.frozen 0
  have f1 := hself3.frozen 1
  have f2 := hself3.frozen 2
  by_cases hm0 : m = 0
  · subst hm0
    have hj : joinT ts = ⟨true, 0, []⟩ := by unfold joinT; rw [if_pos (List.eq_nil_of_length_eq_zero Hlen2.out)]
    have Hj := Lib.hid hj
    clear hj
    go_wp2_with fail
    have hs := hself3.set3 (.bool true) (.int .u8 0) (.slice none 0 0)
    have hb3 := ((hbel3.setCell (p := ⟨w.heap.size, 0, none⟩) (Nat.le_refl _) (.bool true)).setCell (p := ⟨w.heap.size, 1, none⟩) (Nat.le_refl _) (.int .u8 0)).setCell (p := ⟨w.heap.size, 2, none⟩) (Nat.le_refl _) (.slice none 0 0)
    generalize (((w3.setCell ⟨w.heap.size, 0, none⟩ (.bool true)).setCell ⟨w.heap.size, 1, none⟩ (.int .u8 0)).setCell ⟨w.heap.size, 2, none⟩ (.slice none 0 0)) = W3 at hs hb3 ⊢
    have d0 : W3.cell? ⟨w.heap.size, 0, none⟩ = some (.bool true) := hs.cell 0
    have d1 : W3.cell? ⟨w.heap.size, 1, none⟩ = some (.int .u8 0) := hs.cell 1
    have d2 : W3.cell? ⟨w.heap.size, 2, none⟩ = some (.slice none 0 0) := hs.cell 2
    exact bodyPost_ret (v := .tuple #[.agg #[.bool true, .int .u8 0, .slice none 0 0], .int .i64 0]) (by simp [results, Try.results44, go_sem, d0, d1, d2]) rfl (by rw [Hj.out]; exact ⟨none, 0, 0, rfl, RdI.nil, hb3⟩)
  · have hm1 : ((m : Int) == 0) = false := beq_eq_false_iff_ne.2 (by omega)
    have hj : joinT ts = cleanT (joinCs (joinC0 ts) (someT ts)) (joinVs (someT ts)) := by
      unfold joinT
      rw [if_neg (fun e => hm0 (by rw [← Hlen2.out, e]; rfl))]
    have Hj := Lib.hid hj
    clear hj
    have hc0 : (m < n ∧ joinC0 ts = 2) ∨ (¬ m < n ∧ joinC0 ts = 1) := by
      unfold joinC0
      rw [Hlen2.out, Hlen.out]
      by_cases h : m < n
      · exact .inl ⟨h, if_pos h⟩
      · exact .inr ⟨h, if_neg h⟩
    clear c0 c1 c2' f0 f1 f2
    have hmc := hts.2.1
    have hcm := hts.2.2.1
    unfold maxLen at hcm
    have Hts := Lib.hid hts
    clear hts
    have hsub : ∀ l : List TermD, List.Sublist l (someT ts) → (joinVs l).length ≤ 1099511627776 := by
      intro l hl
      have h1 : List.Sublist l ts := hl.trans List.filter_sublist
      exact Nat.le_trans (joinVs_sub h1) hsum
    have Hsub := Lib.hid hsub
    clear hsub hsum
    obtain ⟨i0, hi0, hz0, hz1, hz2⟩ := info_parts intInfo
    rcases hc0 with ⟨hlt, hj0⟩ | ⟨hlt, hj0⟩
    · have Hj' := Lib.hid (Hj.out.trans (by rw [hj0] : _ = cleanT (joinCs 2 (someT ts)) (joinVs (someT ts))))
      clear hj0 Hj
      go_wp2_with fail
      go_loopg [5, 6, 27] m (fun gg cc vv i wr => ∃ k : Nat, k ≤ m ∧ gg = m - k ∧ i = .int .i64 k ∧ cc = .int .u8 (joinCs 2 ((someT ts).take k)) ∧
        wr.ownsRow w3.heap.size 3 1 vv (joinVs ((someT ts).take k)).length ((joinVs ((someT ts).take k)).map (Value.int .i64)) ∧ Below w3.heap.size w3 wr)
      case atStart => exact ⟨0, Nat.zero_le _, rfl, rfl, rfl, World.ownsRow_nil _ _ _ _, Below.refl _ _⟩
      case round =>
        obtain ⟨k, hk, rfl, rfl, rfl, ho, hbel⟩ := hrel
        have Ho := Lib.hid ho
        clear ho
        by_cases hlk : k < m
        · obtain ⟨b, off, rfl, hb, hcell⟩ := Hts.out.2.2.2 (by omega)
          have hk' : k < (someT ts).length := by rw [Hlen2.out]; exact hlk
          obtain ⟨A', n', c', e0, e1, e2, hr'⟩ := (hcell k hk').keep hb (fun q hq => hbel.cell hq)
          have hstep : (someT ts).take (k + 1) = (someT ts).take k ++ [(someT ts)[k]] := List.take_succ_eq_append_getElem hk'
          have Hstep := Lib.hid hstep
          have Hr := Lib.hid hr'
          have hle : (joinVs ((someT ts).take k)).length + n' ≤ 1099511627776 := by
            have h1 := Hsub.out ((someT ts).take (k + 1)) (List.take_sublist _ _)
            rw [hstep, joinVs_snoc, List.length_append, hr'.len] at h1
            exact h1
          clear hstep hr' hcell
          go_wp2_with fail
          have ho' := Ho.out.alloc (Obj.cells #[.bool ((someT ts)[k]).never, .int .u8 ((someT ts)[k]).c, .slice A' n' c'] 37)
          have hne : u6.ownBlock ≠ some wr.heap.size := fun e => by have := (Ho.out.lt _ e).2; omega
          have hra := Hr.out.below ((Below.refl w3.heap.size wr).alloc hbel.size (Obj.cells #[.bool ((someT ts)[k]).never, .int .u8 ((someT ts)[k]).c, .slice A' n' c'] 37))
          have hbel' := hbel.alloc hbel.size (Obj.cells #[.bool ((someT ts)[k]).never, .int .u8 ((someT ts)[k]).c, .slice A' n' c'] 37)
          have q1 : (wr.alloc (Obj.cells #[.bool ((someT ts)[k]).never, .int .u8 ((someT ts)[k]).c, .slice A' n' c'] 37)).cell? ⟨wr.heap.size, 1, none⟩ = some (.int .u8 ((someT ts)[k]).c) := by rw [World.cell?_alloc_new]; rfl
          have q2 : (wr.alloc (Obj.cells #[.bool ((someT ts)[k]).never, .int .u8 ((someT ts)[k]).c, .slice A' n' c'] 37)).cell? ⟨wr.heap.size, 2, none⟩ = some (.slice A' n' c') := by rw [World.cell?_alloc_new]; rfl
          have htb : wr.heap.size < (wr.alloc (Obj.cells #[.bool ((someT ts)[k]).never, .int .u8 ((someT ts)[k]).c, .slice A' n' c'] 37)).heap.size := by simp
          generalize wr.alloc (Obj.cells #[.bool ((someT ts)[k]).never, .int .u8 ((someT ts)[k]).c, .slice A' n' c'] 37) = W at ho' hra hbel' q1 q2 htb ⊢
          generalize wr.heap.size = tb at hne q1 q2 htb ⊢
          go_region_held3 (fun w' => w'.cell? ⟨tb, 1, none⟩ = some (.int .u8 ((someT ts)[k]).c) ∧ w'.cell? ⟨tb, 2, none⟩ = some (.slice A' n' c'))
            (first | go_keep | (refine ⟨(hg4.cell_far _ (by simpa using htb) (Ne.symm hne)).trans q1, (hg4.cell_far _ (by simpa using htb) (Ne.symm hne)).trans q2⟩))
            ((refine step_append_rd (o := ⟨some 38, _, _, _, _, _⟩) _ (by rfl) (.tmp 35) (.tmp 37) 35 (by rfl) w3.heap.size 3 i0 _ 1 8 Try.underlying35 hi0 hz0 hz1 hz2 rfl (by omega) u6 (joinVs ((someT ts).take k)).length ((joinVs ((someT ts).take k)).map (Value.int .i64)) (by rfl) ho' w3.heap.size A' n' c' ((((someT ts)[k]).vars).map (Value.int .i64)) (by rfl) hra.1 (by intro u hu; obtain ⟨x, _, rfl⟩ := List.mem_map.1 hu; rfl) (by unfold maxLen; omega) (by omega) hbel'.size ?_; intro v4 w4 ho4 hg4 hat4))
          all_goals
            have ho5 : w4.ownsRow w3.heap.size 3 1 v4 (joinVs ((someT ts).take (k + 1))).length ((joinVs ((someT ts).take (k + 1))).map (Value.int .i64)) := by
              rw [Hstep.out, joinVs_snoc, List.length_append, List.map_append, Hr.out.len]
              exact ho4
            have hcs : joinCs 2 ((someT ts).take (k + 1)) = max (joinCs 2 ((someT ts).take k)) ((someT ts)[k]).c := by rw [Hstep.out, joinCs_snoc]
            have hbel5 : Below w3.heap.size w3 w4 := (hbel'.drew).grown hg4 hbel'.size (fun j hj => (ho'.lt _ hj).1)
            have Ho5 := Lib.hid ho5
            have Hcs := Lib.hid hcs
            clear hcs ho5 ho4 hat4 hg4 ho' hra hbel' q1 q2 e0 e1 e2
            go_wp2_with fail
            go_roundg (m - (k + 1))
            case rel => exact ⟨k + 1, by omega, rfl, by rfl, by rw [Hcs.out], Ho5.out, hbel5⟩
            case measure => omega
        · have hkm : k = m := by omega
          subst hkm
          have hall : (someT ts).take k = someT ts := List.take_of_length_le (by rw [Hlen2.out]; exact Nat.le_refl _)
          have ho1 := Ho.out
          rw [hall] at ho1
          obtain ⟨A6, c6, rfl⟩ : ∃ A6 c6, u6 = .slice A6 (joinVs (someT ts)).length c6 := by
            rcases ho1.2 with ⟨e0, hn0⟩ | ⟨g, cap, cur, e0, _⟩
            · exact ⟨none, 0, by rw [e0, hn0]⟩
            · exact ⟨some ⟨g, 0, none⟩, cap, e0⟩
          have hrv := RdI.of_own ho1
          have hs4 := hself3.below hbel hself3.lt
          have hb4 := hbel3.trans (hbel.mono hbel3.size)
          have hl6 : (joinVs (someT ts)).length * 8 ≤ 140737488355328 := by
            have := Hsub.out (someT ts) (List.Sublist.refl _)
            omega
          have Hl6 := Lib.hid hl6
          have Hall := Lib.hid hall
          have Hrv := Lib.hid hrv
          clear hl6 hall hrv ho1 hbel hbel3 hself3 Ho
          go_wp2_with fail
          rw [Hall.out]
          refine (clean_any (joinCs 2 (someT ts)) A6 _ c6 _ wr _ Hrv.out (Nat.le_refl _) Hl6.out).mono ?_
          rintro e w5 ⟨A7, n7, c7, rfl, hr7, hb7⟩
          have hs5 := hs4.below hb7 hs4.lt
          have hb5 := hb4.trans (hb7.mono hb4.size)
          generalize cleanT (joinCs 2 (someT ts)) (joinVs (someT ts)) = T at Hj' hr7
          have g0 : w5.cell? ⟨w.heap.size, 0, none⟩ = some (.bool false) := hs5.cell 0
          have g1 : w5.cell? ⟨w.heap.size, 1, none⟩ = some (.int .u8 0) := hs5.cell 1
          have g2 : w5.cell? ⟨w.heap.size, 2, none⟩ = some (.slice none 0 0) := hs5.cell 2
          have p0 := hs5.frozen 0
          have p1 := hs5.frozen 1
          have p2 := hs5.frozen 2
          have Hr7 := Lib.hid hr7
          clear hr7 hs4 hb4 hb7 Hrv
          go_wp2_with fail
          have hs := hs5.set3 (.bool T.never) (.int .u8 T.c) (.slice A7 n7 c7)
          have hb3 := ((hb5.setCell (p := ⟨w.heap.size, 0, none⟩) (Nat.le_refl _) (.bool T.never)).setCell (p := ⟨w.heap.size, 1, none⟩) (Nat.le_refl _) (.int .u8 T.c)).setCell (p := ⟨w.heap.size, 2, none⟩) (Nat.le_refl _) (.slice A7 n7 c7)
          have hr8 := Hr7.out.put3 hs5 (.bool T.never) (.int .u8 T.c) (.slice A7 n7 c7)
          have hr9 := hr8.more (B' := (((w5.setCell ⟨w.heap.size, 0, none⟩ (.bool T.never)).setCell ⟨w.heap.size, 1, none⟩ (.int .u8 T.c)).setCell ⟨w.heap.size, 2, none⟩ (.slice A7 n7 c7)).heap.size) (by simp)
          generalize (((w5.setCell ⟨w.heap.size, 0, none⟩ (.bool T.never)).setCell ⟨w.heap.size, 1, none⟩ (.int .u8 T.c)).setCell ⟨w.heap.size, 2, none⟩ (.slice A7 n7 c7)) = W3 at hs hb3 hr8 hr9 ⊢
          have d0 : W3.cell? ⟨w.heap.size, 0, none⟩ = some (.bool T.never) := hs.cell 0
          have d1 : W3.cell? ⟨w.heap.size, 1, none⟩ = some (.int .u8 T.c) := hs.cell 1
          have d2 : W3.cell? ⟨w.heap.size, 2, none⟩ = some (.slice A7 n7 c7) := hs.cell 2
          exact bodyPost_ret (v := .tuple #[.agg #[.bool T.never, .int .u8 T.c, .slice A7 n7 c7], .int .i64 0]) (by simp [results, Try.results44, go_sem, d0, d1, d2]) rfl (by rw [Hj'.out]; exact ⟨A7, n7, c7, rfl, hr9, hb3⟩)
    · have Hj' := Lib.hid (Hj.out.trans (by rw [hj0] : _ = cleanT (joinCs 1 (someT ts)) (joinVs (someT ts))))
      clear hj0 Hj
      go_wp2_with fail
      go_loopg [5, 6, 27] m (fun gg cc vv i wr => ∃ k : Nat, k ≤ m ∧ gg = m - k ∧ i = .int .i64 k ∧ cc = .int .u8 (joinCs 1 ((someT ts).take k)) ∧
        wr.ownsRow w3.heap.size 3 1 vv (joinVs ((someT ts).take k)).length ((joinVs ((someT ts).take k)).map (Value.int .i64)) ∧ Below w3.heap.size w3 wr)
      case atStart => exact ⟨0, Nat.zero_le _, rfl, rfl, rfl, World.ownsRow_nil _ _ _ _, Below.refl _ _⟩
      case round =>
        obtain ⟨k, hk, rfl, rfl, rfl, ho, hbel⟩ := hrel
        have Ho := Lib.hid ho
        clear ho
        by_cases hlk : k < m
        · obtain ⟨b, off, rfl, hb, hcell⟩ := Hts.out.2.2.2 (by omega)
          have hk' : k < (someT ts).length := by rw [Hlen2.out]; exact hlk
          obtain ⟨A', n', c', e0, e1, e2, hr'⟩ := (hcell k hk').keep hb (fun q hq => hbel.cell hq)
          have hstep : (someT ts).take (k + 1) = (someT ts).take k ++ [(someT ts)[k]] := List.take_succ_eq_append_getElem hk'
          have Hstep := Lib.hid hstep
          have Hr := Lib.hid hr'
          have hle : (joinVs ((someT ts).take k)).length + n' ≤ 1099511627776 := by
            have h1 := Hsub.out ((someT ts).take (k + 1)) (List.take_sublist _ _)
            rw [hstep, joinVs_snoc, List.length_append, hr'.len] at h1
            exact h1
          clear hstep hr' hcell
          go_wp2_with fail
          have ho' := Ho.out.alloc (Obj.cells #[.bool ((someT ts)[k]).never, .int .u8 ((someT ts)[k]).c, .slice A' n' c'] 37)
          have hne : u6.ownBlock ≠ some wr.heap.size := fun e => by have := (Ho.out.lt _ e).2; omega
          have hra := Hr.out.below ((Below.refl w3.heap.size wr).alloc hbel.size (Obj.cells #[.bool ((someT ts)[k]).never, .int .u8 ((someT ts)[k]).c, .slice A' n' c'] 37))
          have hbel' := hbel.alloc hbel.size (Obj.cells #[.bool ((someT ts)[k]).never, .int .u8 ((someT ts)[k]).c, .slice A' n' c'] 37)
          have q1 : (wr.alloc (Obj.cells #[.bool ((someT ts)[k]).never, .int .u8 ((someT ts)[k]).c, .slice A' n' c'] 37)).cell? ⟨wr.heap.size, 1, none⟩ = some (.int .u8 ((someT ts)[k]).c) := by rw [World.cell?_alloc_new]; rfl
          have q2 : (wr.alloc (Obj.cells #[.bool ((someT ts)[k]).never, .int .u8 ((someT ts)[k]).c, .slice A' n' c'] 37)).cell? ⟨wr.heap.size, 2, none⟩ = some (.slice A' n' c') := by rw [World.cell?_alloc_new]; rfl
          have htb : wr.heap.size < (wr.alloc (Obj.cells #[.bool ((someT ts)[k]).never, .int .u8 ((someT ts)[k]).c, .slice A' n' c'] 37)).heap.size := by simp
          generalize wr.alloc (Obj.cells #[.bool ((someT ts)[k]).never, .int .u8 ((someT ts)[k]).c, .slice A' n' c'] 37) = W at ho' hra hbel' q1 q2 htb ⊢
          generalize wr.heap.size = tb at hne q1 q2 htb ⊢
          go_region_held3 (fun w' => w'.cell? ⟨tb, 1, none⟩ = some (.int .u8 ((someT ts)[k]).c) ∧ w'.cell? ⟨tb, 2, none⟩ = some (.slice A' n' c'))
            (first | go_keep | (refine ⟨(hg4.cell_far _ (by simpa using htb) (Ne.symm hne)).trans q1, (hg4.cell_far _ (by simpa using htb) (Ne.symm hne)).trans q2⟩))
            ((refine step_append_rd (o := ⟨some 38, _, _, _, _, _⟩) _ (by rfl) (.tmp 35) (.tmp 37) 35 (by rfl) w3.heap.size 3 i0 _ 1 8 Try.underlying35 hi0 hz0 hz1 hz2 rfl (by omega) u6 (joinVs ((someT ts).take k)).length ((joinVs ((someT ts).take k)).map (Value.int .i64)) (by rfl) ho' w3.heap.size A' n' c' ((((someT ts)[k]).vars).map (Value.int .i64)) (by rfl) hra.1 (by intro u hu; obtain ⟨x, _, rfl⟩ := List.mem_map.1 hu; rfl) (by unfold maxLen; omega) (by omega) hbel'.size ?_; intro v4 w4 ho4 hg4 hat4))
          all_goals
            have ho5 : w4.ownsRow w3.heap.size 3 1 v4 (joinVs ((someT ts).take (k + 1))).length ((joinVs ((someT ts).take (k + 1))).map (Value.int .i64)) := by
              rw [Hstep.out, joinVs_snoc, List.length_append, List.map_append, Hr.out.len]
              exact ho4
            have hcs : joinCs 1 ((someT ts).take (k + 1)) = max (joinCs 1 ((someT ts).take k)) ((someT ts)[k]).c := by rw [Hstep.out, joinCs_snoc]
            have hbel5 : Below w3.heap.size w3 w4 := (hbel'.drew).grown hg4 hbel'.size (fun j hj => (ho'.lt _ hj).1)
            have Ho5 := Lib.hid ho5
            have Hcs := Lib.hid hcs
            clear hcs ho5 ho4 hat4 hg4 ho' hra hbel' q1 q2 e0 e1 e2
            go_wp2_with fail
            go_roundg (m - (k + 1))
            case rel => exact ⟨k + 1, by omega, rfl, by rfl, by rw [Hcs.out], Ho5.out, hbel5⟩
            case measure => omega
        · have hkm : k = m := by omega
          subst hkm
          have hall : (someT ts).take k = someT ts := List.take_of_length_le (by rw [Hlen2.out]; exact Nat.le_refl _)
          have ho1 := Ho.out
          rw [hall] at ho1
          obtain ⟨A6, c6, rfl⟩ : ∃ A6 c6, u6 = .slice A6 (joinVs (someT ts)).length c6 := by
            rcases ho1.2 with ⟨e0, hn0⟩ | ⟨g, cap, cur, e0, _⟩
            · exact ⟨none, 0, by rw [e0, hn0]⟩
            · exact ⟨some ⟨g, 0, none⟩, cap, e0⟩
          have hrv := RdI.of_own ho1
          have hs4 := hself3.below hbel hself3.lt
          have hb4 := hbel3.trans (hbel.mono hbel3.size)
          have hl6 : (joinVs (someT ts)).length * 8 ≤ 140737488355328 := by
            have := Hsub.out (someT ts) (List.Sublist.refl _)
            omega
          have Hl6 := Lib.hid hl6
          have Hall := Lib.hid hall
          have Hrv := Lib.hid hrv
          clear hl6 hall hrv ho1 hbel hbel3 hself3 Ho
          go_wp2_with fail
          rw [Hall.out]
          refine (clean_any (joinCs 1 (someT ts)) A6 _ c6 _ wr _ Hrv.out (Nat.le_refl _) Hl6.out).mono ?_
          rintro e w5 ⟨A7, n7, c7, rfl, hr7, hb7⟩
          have hs5 := hs4.below hb7 hs4.lt
          have hb5 := hb4.trans (hb7.mono hb4.size)
          generalize cleanT (joinCs 1 (someT ts)) (joinVs (someT ts)) = T at Hj' hr7
          have g0 : w5.cell? ⟨w.heap.size, 0, none⟩ = some (.bool false) := hs5.cell 0
          have g1 : w5.cell? ⟨w.heap.size, 1, none⟩ = some (.int .u8 0) := hs5.cell 1
          have g2 : w5.cell? ⟨w.heap.size, 2, none⟩ = some (.slice none 0 0) := hs5.cell 2
          have p0 := hs5.frozen 0
          have p1 := hs5.frozen 1
          have p2 := hs5.frozen 2
          have Hr7 := Lib.hid hr7
          clear hr7 hs4 hb4 hb7 Hrv
          go_wp2_with fail
          have hs := hs5.set3 (.bool T.never) (.int .u8 T.c) (.slice A7 n7 c7)
          have hb3 := ((hb5.setCell (p := ⟨w.heap.size, 0, none⟩) (Nat.le_refl _) (.bool T.never)).setCell (p := ⟨w.heap.size, 1, none⟩) (Nat.le_refl _) (.int .u8 T.c)).setCell (p := ⟨w.heap.size, 2, none⟩) (Nat.le_refl _) (.slice A7 n7 c7)
          have hr8 := Hr7.out.put3 hs5 (.bool T.never) (.int .u8 T.c) (.slice A7 n7 c7)
          have hr9 := hr8.more (B' := (((w5.setCell ⟨w.heap.size, 0, none⟩ (.bool T.never)).setCell ⟨w.heap.size, 1, none⟩ (.int .u8 T.c)).setCell ⟨w.heap.size, 2, none⟩ (.slice A7 n7 c7)).heap.size) (by simp)
          generalize (((w5.setCell ⟨w.heap.size, 0, none⟩ (.bool T.never)).setCell ⟨w.heap.size, 1, none⟩ (.int .u8 T.c)).setCell ⟨w.heap.size, 2, none⟩ (.slice A7 n7 c7)) = W3 at hs hb3 hr8 hr9 ⊢
          have d0 : W3.cell? ⟨w.heap.size, 0, none⟩ = some (.bool T.never) := hs.cell 0
          have d1 : W3.cell? ⟨w.heap.size, 1, none⟩ = some (.int .u8 T.c) := hs.cell 1
          have d2 : W3.cell? ⟨w.heap.size, 2, none⟩ = some (.slice A7 n7 c7) := hs.cell 2
          exact bodyPost_ret (v := .tuple #[.agg #[.bool T.never, .int .u8 T.c, .slice A7 n7 c7], .int .i64 0]) (by simp [results, Try.results44, go_sem, d0, d1, d2]) rfl (by rw [Hj'.out]; exact ⟨A7, n7, c7, rfl, hr9, hb3⟩)

end Go.Proofs.Ytimlbpjdgnapoaa

/- The contract of term.Sum. -/
namespace Go.Proofs.Ytimlbpjdgnapoaa
set_option linter.unusedVariables false
set_option linter.unusedSimpArgs false
open Go.RowKit

set_option maxHeartbeats 1000000 in
theorem sum_no (A : Option Addr) (n c : Nat) (ts : List TermD) (w : World) (hr : TermsV w w.heap.size A n c ts) (hno : allMay ts = false) :
    Calls Try.prog 45 #[.slice A n c] w (RetTE zeroT 2 w) := by
  have Hno := Lib.hid hno
  clear hno
  have hbel : Below w.heap.size w (w.alloc (Obj.cells #[.bool false, .int .u8 0, .slice none 0 0] 37)) := (Below.refl _ _).alloc (Nat.le_refl _) _
  have hr1 := (hr.below hbel).more (B' := (w.alloc (Obj.cells #[.bool false, .int .u8 0, .slice none 0 0] 37)).heap.size) hbel.size
  go_enter Try.func45, Try.ntmps45
  go_wp2_with fail
  refine (mays_any A n c ts _ hr1).mono ?_; rintro e w1 ⟨rfl, hb1⟩
  rw [Hno.out]
  have hb1' := hb1
  simp only [World.size_alloc] at hb1'
  have hself : Blk w1 w.heap.size 37 #[.bool false, .int .u8 0, .slice none 0 0] := by
    show w1.heap[w.heap.size]? = _
    rw [hb1'.block _ (Nat.lt_succ_self _)]
    exact heap_alloc_new w _
  have hbel1 : Below w.heap.size w w1 := hbel.trans (hb1.mono hbel.size)
  have c0 : w1.cell? ⟨w.heap.size, 0, none⟩ = some (.bool false) := hself.cell 0
  have c1 : w1.cell? ⟨w.heap.size, 1, none⟩ = some (.int .u8 0) := hself.cell 1
  have c2 : w1.cell? ⟨w.heap.size, 2, none⟩ = some (.slice none 0 0) := hself.cell 2
  have f0 := hself.frozen 0
  have f1 := hself.frozen 1
  have f2 := hself.frozen 2
  clear hb1 hb1' hr hr1 hbel
  go_wp2_with fail
  have hs := hself.set3 (.bool false) (.int .u8 0) (.slice none 0 0)
  have hb3 := ((hbel1.setCell (p := ⟨w.heap.size, 0, none⟩) (Nat.le_refl _) (.bool false)).setCell (p := ⟨w.heap.size, 1, none⟩) (Nat.le_refl _) (.int .u8 0)).setCell (p := ⟨w.heap.size, 2, none⟩) (Nat.le_refl _) (.slice none 0 0)
  generalize (((w1.setCell ⟨w.heap.size, 0, none⟩ (.bool false)).setCell ⟨w.heap.size, 1, none⟩ (.int .u8 0)).setCell ⟨w.heap.size, 2, none⟩ (.slice none 0 0)) = W3 at hs hb3 ⊢
  have d0 : W3.cell? ⟨w.heap.size, 0, none⟩ = some (.bool false) := hs.cell 0
  have d1 : W3.cell? ⟨w.heap.size, 1, none⟩ = some (.int .u8 0) := hs.cell 1
  have d2 : W3.cell? ⟨w.heap.size, 2, none⟩ = some (.slice none 0 0) := hs.cell 2
  exact bodyPost_ret (v := .tuple #[.agg #[.bool false, .int .u8 0, .slice none 0 0], .int .i64 2]) (by simp [results, Try.results45, go_sem, d0, d1, d2]) rfl ⟨none, 0, 0, rfl, RdI.nil, hb3⟩

set_option maxHeartbeats 2000000 in
theorem sum_yes (A : Option Addr) (n c : Nat) (ts : List TermD) (w : World) (hr : TermsV w w.heap.size A n c ts) (hyes : allMay ts = true) (hn : n ≤ 1099511627776) (hsum : ∀ t ∈ ts, t.vars.length ≤ 1099511627776) :
    Calls Try.prog 45 #[.slice A n c] w (RetTE (sumT ts) 0 w) := by
  have Hyes := Lib.hid hyes
  clear hyes
  have hlen := hr.1
  have Hlen := Lib.hid hlen
  clear hlen
  have hbel : Below w.heap.size w (w.alloc (Obj.cells #[.bool false, .int .u8 0, .slice none 0 0] 37)) := (Below.refl _ _).alloc (Nat.le_refl _) _
  have hr1 := (hr.below hbel).more (B' := (w.alloc (Obj.cells #[.bool false, .int .u8 0, .slice none 0 0] 37)).heap.size) hbel.size
  go_enter Try.func45, Try.ntmps45
  go_wp2_with fail
  refine (mays_any A n c ts _ hr1).mono ?_; rintro e w1 ⟨rfl, hb1⟩
  rw [Hyes.out]
  have hr2 := (hr1.below hb1).more hb1.size
  simp only [World.size_alloc] at hb1
  have hself1 : Blk w1 w.heap.size 37 #[.bool false, .int .u8 0, .slice none 0 0] := by
    show w1.heap[w.heap.size]? = _
    rw [hb1.block _ (Nat.lt_succ_self _)]
    exact heap_alloc_new w _
  have hbel1 : Below w.heap.size w w1 := hbel.trans (hb1.mono (Nat.le_succ _))
  have hg1 : w.heap.size < w1.heap.size := hself1.lt
  clear hb1 hr hr1 hbel
  go_wp2_with fail
  refine (clone_any A n c ts _ hr2 (by omega)).mono ?_
  rintro e w2 ⟨v1, rfl, hown1, hf1, hb2⟩
  go_wp2_with fail
  refine (delete_any _ _ enters_sum pred_sum w1.heap.size w1.heap.size n v1 ts _ hown1 (Nat.le_refl _) hb2.size hf1).mono ?_
  rintro e w3 ⟨v2, m, rfl, hf2, hown2, hb3⟩
  obtain ⟨A2, c2, rfl⟩ : ∃ A2 c2, v2 = .slice A2 m c2 := by
    rcases hf2 with ⟨rfl, rfl⟩ | ⟨g, c, rfl⟩
    · exact ⟨none, 0, rfl⟩
    · exact ⟨some ⟨g, 0, none⟩, c, rfl⟩
  have hb23 : Below w1.heap.size w1 w3 := hb2.trans hb3
  have hself3 := hself1.below hb23 hg1
  have hbel3 : Below w.heap.size w w3 := hbel1.trans (hb23.mono hbel1.size)
  have hts := (hown2.terms (Nat.le_trans hb2.size hb3.size)).2
  have hlen2 : (someT ts).length = m := hown2.1
  have Hlen2 := Lib.hid hlen2
  have hge : ∀ b off, A2 = some ⟨b, off, none⟩ → w1.heap.size ≤ b := by
    intro b off e
    obtain ⟨_, cs, ho, _⟩ := hown2
    exact (ho.lt b (by rw [e]; rfl)).1
  have Hge := Lib.hid hge
  clear hge
  have hmn : m ≤ n := by rw [← hlen2, ← Hlen.out]; exact List.length_filter_le _ _
  have hg1' := hg1
  clear hlen2 hown1 hown2 hf1 hf2 hb2 hb3 hb23 hself1 hbel1 hg1 hr2
  have hsom : someT ts = (ts.filter fun t => !(fun t : TermD => t.never) t) := rfl
  rw [← hsom] at hts
  clear hsom
  have c0 : w3.cell? ⟨w.heap.size, 0, none⟩ = some (.bool false) := hself3.cell 0
  have c1 : w3.cell? ⟨w.heap.size, 1, none⟩ = some (.int .u8 0) := hself3.cell 1
  have c2' : w3.cell? ⟨w.heap.size, 2, none⟩ = some (.slice none 0 0) := hself3.cell 2
  have f0 := hself3.frozen 0
  have f1 := hself3.frozen 1
  have f2 := hself3.frozen 2
  by_cases hm0 : m = 0
  · subst hm0
    have hj : sumT ts = ⟨true, 0, []⟩ := by unfold sumT; rw [List.eq_nil_of_length_eq_zero Hlen2.out]
    have Hj := Lib.hid hj
    clear hj
    go_wp2_with fail
    have hs := hself3.set3 (.bool true) (.int .u8 0) (.slice none 0 0)
    have hb3 := ((hbel3.setCell (p := ⟨w.heap.size, 0, none⟩) (Nat.le_refl _) (.bool true)).setCell (p := ⟨w.heap.size, 1, none⟩) (Nat.le_refl _) (.int .u8 0)).setCell (p := ⟨w.heap.size, 2, none⟩) (Nat.le_refl _) (.slice none 0 0)
    generalize (((w3.setCell ⟨w.heap.size, 0, none⟩ (.bool true)).setCell ⟨w.heap.size, 1, none⟩ (.int .u8 0)).setCell ⟨w.heap.size, 2, none⟩ (.slice none 0 0)) = W3 at hs hb3 ⊢
    have d0 : W3.cell? ⟨w.heap.size, 0, none⟩ = some (.bool true) := hs.cell 0
    have d1 : W3.cell? ⟨w.heap.size, 1, none⟩ = some (.int .u8 0) := hs.cell 1
    have d2 : W3.cell? ⟨w.heap.size, 2, none⟩ = some (.slice none 0 0) := hs.cell 2
    exact bodyPost_ret (v := .tuple #[.agg #[.bool true, .int .u8 0, .slice none 0 0], .int .i64 0]) (by simp [results, Try.results45, go_sem, d0, d1, d2]) rfl (by rw [Hj.out]; exact ⟨none, 0, 0, rfl, RdI.nil, hb3⟩)
  · by_cases hm1 : m = 1
    · subst hm1
      obtain ⟨t, ht⟩ : ∃ t, someT ts = [t] := List.length_eq_one_iff.1 Hlen2.out
      have hj : sumT ts = cleanT t.c t.vars := by unfold sumT; rw [ht]
      have Hj := Lib.hid hj
      clear hj
      have htm : t ∈ ts := by
        have h1 : t ∈ someT ts := by rw [ht]; simp
        exact (List.mem_filter.1 (show t ∈ ts.filter (fun t => !t.never) from h1)).1
      have hln := hsum t htm
      rw [ht] at hts
      obtain ⟨b, off, rfl, hb, hcell⟩ := hts.2.2.2 (by omega)
      have hbne : b ≠ w.heap.size := by have := Hge.out b off rfl; omega
      obtain ⟨A', n', c', e0, e1, e2, hr'⟩ := hcell 0 (by simp)
      rw [Nat.zero_mul, Nat.add_zero] at e0 e1 e2
      simp only [List.getElem_cons_zero] at e0 e1 e2 hr'
      have hl8 : n' * 8 ≤ 140737488355328 := by rw [← hr'.len]; omega
      have Hl8 := Lib.hid hl8
      have Hr := Lib.hid hr'
      clear hr' hcell hts htm hsum hl8 ht hln c0 c1 c2' f0 f1 f2
      go_wp2_with fail
      go_region_held3 (fun w' => w'.cell? ⟨b, off + 1, none⟩ = some (.int .u8 t.c) ∧ w'.cell? ⟨b, off + 2, none⟩ = some (.slice A' n' c'))
        (first | go_keep | exact ⟨e1, e2⟩ | exact ⟨(hb7.cell (p := ⟨b, off + 1, none⟩) hb).trans e1, (hb7.cell (p := ⟨b, off + 2, none⟩) hb).trans e2⟩ | exact ⟨(set3_other _ _ hbne _ _ _).trans ((hb7.cell (p := ⟨b, off + 1, none⟩) hb).trans e1), (set3_other _ _ hbne _ _ _).trans ((hb7.cell (p := ⟨b, off + 2, none⟩) hb).trans e2)⟩)
        ((go_at_call 73; refine (clean_any t.c A' n' c' t.vars w3.drew w3.heap.size (Hr.out.keep (w' := w3.drew) fun _ _ => rfl) (Nat.le_refl _) Hl8.out).mono ?_; rintro e w5 ⟨A7, n7, c7, rfl, hr7, hb7⟩;
          replace hb7 : Below w3.heap.size w3 w5 := ((Below.refl _ _).drew).trans hb7; have hs5 := hself3.below hb7 hself3.lt; have hb5 := hbel3.trans (hb7.mono hbel3.size); generalize cleanT t.c t.vars = T at Hj hr7;
          have g0 : w5.cell? ⟨w.heap.size, 0, none⟩ = some (.bool false) := hs5.cell 0; have g1 : w5.cell? ⟨w.heap.size, 1, none⟩ = some (.int .u8 0) := hs5.cell 1; have g2 : w5.cell? ⟨w.heap.size, 2, none⟩ = some (.slice none 0 0) := hs5.cell 2;
          have p0 := hs5.frozen 0; have p1 := hs5.frozen 1; have p2 := hs5.frozen 2))
      have Hr7 := Lib.hid hr7
      clear hr7 hself3 hbel3 hb7 Hr
      try go_wp2_with fail
      have hs := hs5.set3 (.bool T.never) (.int .u8 T.c) (.slice A7 n7 c7)
      have hb3 := ((hb5.setCell (p := ⟨w.heap.size, 0, none⟩) (Nat.le_refl _) (.bool T.never)).setCell (p := ⟨w.heap.size, 1, none⟩) (Nat.le_refl _) (.int .u8 T.c)).setCell (p := ⟨w.heap.size, 2, none⟩) (Nat.le_refl _) (.slice A7 n7 c7)
      have hr8 := Hr7.out.put3 hs5 (.bool T.never) (.int .u8 T.c) (.slice A7 n7 c7)
      have hr9 := hr8.more (B' := (((w5.setCell ⟨w.heap.size, 0, none⟩ (.bool T.never)).setCell ⟨w.heap.size, 1, none⟩ (.int .u8 T.c)).setCell ⟨w.heap.size, 2, none⟩ (.slice A7 n7 c7)).heap.size) (by simp)
      generalize (((w5.setCell ⟨w.heap.size, 0, none⟩ (.bool T.never)).setCell ⟨w.heap.size, 1, none⟩ (.int .u8 T.c)).setCell ⟨w.heap.size, 2, none⟩ (.slice A7 n7 c7)) = W3 at hs hb3 hr8 hr9 ⊢
      have d0 : W3.cell? ⟨w.heap.size, 0, none⟩ = some (.bool T.never) := hs.cell 0
      have d1 : W3.cell? ⟨w.heap.size, 1, none⟩ = some (.int .u8 T.c) := hs.cell 1
      have d2 : W3.cell? ⟨w.heap.size, 2, none⟩ = some (.slice A7 n7 c7) := hs.cell 2
      exact bodyPost_ret (v := .tuple #[.agg #[.bool T.never, .int .u8 T.c, .slice A7 n7 c7], .int .i64 0]) (by simp [results, Try.results45, go_sem, d0, d1, d2]) rfl (by rw [Hj.out]; exact ⟨A7, n7, c7, rfl, hr9, hb3⟩)
    · have hj : sumT ts = ⟨false, 3, []⟩ := by
        unfold sumT
        have := Hlen2.out
        split
        · rename_i h; rw [h] at this; simp at this; omega
        · rename_i h; rw [h] at this; simp at this; omega
        · rfl
      have Hj := Lib.hid hj
      have hz0 : ((m : Int) == 0) = false := beq_eq_false_iff_ne.2 (by omega)
      have hz1 : ((m : Int) == 1) = false := beq_eq_false_iff_ne.2 (by omega)
      clear hj hts hsum
      go_wp2_with fail
      have hs := hself3.set3 (.bool false) (.int .u8 3) (.slice none 0 0)
      have hb3 := ((hbel3.setCell (p := ⟨w.heap.size, 0, none⟩) (Nat.le_refl _) (.bool false)).setCell (p := ⟨w.heap.size, 1, none⟩) (Nat.le_refl _) (.int .u8 3)).setCell (p := ⟨w.heap.size, 2, none⟩) (Nat.le_refl _) (.slice none 0 0)
      generalize (((w3.setCell ⟨w.heap.size, 0, none⟩ (.bool false)).setCell ⟨w.heap.size, 1, none⟩ (.int .u8 3)).setCell ⟨w.heap.size, 2, none⟩ (.slice none 0 0)) = W3 at hs hb3 ⊢
      have d0 : W3.cell? ⟨w.heap.size, 0, none⟩ = some (.bool false) := hs.cell 0
      have d1 : W3.cell? ⟨w.heap.size, 1, none⟩ = some (.int .u8 3) := hs.cell 1
      have d2 : W3.cell? ⟨w.heap.size, 2, none⟩ = some (.slice none 0 0) := hs.cell 2
      exact bodyPost_ret (v := .tuple #[.agg #[.bool false, .int .u8 3, .slice none 0 0], .int .i64 0]) (by simp [results, Try.results45, go_sem, d0, d1, d2]) rfl (by rw [Hj.out]; exact ⟨none, 0, 0, rfl, RdI.nil, hb3⟩)

end Go.Proofs.Ytimlbpjdgnapoaa

/- The contracts of term.Same, term.Is, term.Of, term.Least. -/
namespace Go.Proofs.Ytimlbpjdgnapoaa
set_option linter.unusedVariables false
set_option linter.unusedSimpArgs false
open Go.RowKit

theorem equal_any (A : Option Addr) (n c : Nat) (us : List Int) (A' : Option Addr) (n' c' : Nat) (us' : List Int) (w : World) (B B' : Nat) (h : RdI .i64 w B A n c us) (h' : RdI .i64 w B' A' n' c' us') :
    Calls Try.prog 60 #[.slice A n c, .slice A' n' c'] w fun e w' => e = .returned (.bool (us == us')) ∧ Below w.heap.size w w' := by
  have hl := h.len
  have hl' := h'.len
  have hc : c ≤ 9223372036854775807 := h.2.2
  have hc' : c' ≤ 9223372036854775807 := h'.2.2
  have hn := h.2.1
  have hn' := h'.2.1
  by_cases e : n = n'
  · subst e
    rcases Nat.eq_zero_or_pos n with h0 | h0
    · subst h0
      obtain rfl := List.eq_nil_of_length_eq_zero hl
      obtain rfl := List.eq_nil_of_length_eq_zero hl'
      refine (Try.slices_Equal_int_empty A A' c 0 c' w (by omega)).mono ?_
      rintro e w' ⟨rfl, rfl⟩
      exact ⟨rfl, Below.refl _ _⟩
    · obtain ⟨b, off, rfl, hb, hcell⟩ := h.at_ h0
      obtain ⟨b', off', rfl, hb', hcell'⟩ := h'.at_ h0
      refine (Try.slices_Equal_int b off n c b' off' n c' us us' w (by omega) (by omega) (by omega) (by omega) (fun j hj => by rw [hcell j hj]; simp [List.getD, hj]) (fun j hj => by rw [hcell' j hj]; simp [List.getD, hj])).mono ?_
      rintro e w' ⟨rfl, q, rfl⟩
      rw [List.take_of_length_le (by omega), List.take_of_length_le (by omega)]
      exact ⟨rfl, below_drewN_t (Below.refl _ _) q⟩
  · refine (Try.slices_Equal_int_lens A A' n c n' c' w e).mono ?_
    rintro e' w' ⟨rfl, rfl⟩
    refine ⟨?_, Below.refl _ _⟩
    have : (us == us') = false := beq_eq_false_iff_ne.2 (fun he => e (by rw [← hl, ← hl', he]))
    rw [this]

theorem same_any (v1 v2 : Value) (a b : TermD) (w : World) (B B' : Nat) (h1 : TermV w B v1 a) (h2 : TermV w B' v2 b) (hB : B ≤ w.heap.size) (hB' : B' ≤ w.heap.size) :
    Calls Try.prog 24 #[v1, v2] w fun e w' => e = .returned (.bool (sameB a b)) ∧ Below w.heap.size w w' := by
  obtain ⟨A, n, c, rfl, hr⟩ := h1
  obtain ⟨A', n', c', rfl, hr'⟩ := h2
  obtain ⟨an, ac, av⟩ := a
  obtain ⟨bn, bc, bv⟩ := b
  have hbel : Below w.heap.size w ((w.alloc (Obj.cells #[.bool an, .int .u8 ac, .slice A n c] 37)).alloc (Obj.cells #[.bool bn, .int .u8 bc, .slice A' n' c'] 37)) := ((Below.refl _ _).alloc (Nat.le_refl _) _).alloc (by simp) _
  have hq := equal_any A n c av A' n' c' bv _ _ _ ((hr.more hB).below hbel) ((hr'.more hB').below hbel)
  have Hq := Lib.hid hq
  have hs : ∀ x, (an == bn && ac == bc && av == bv) = x → sameB ⟨an, ac, av⟩ ⟨bn, bc, bv⟩ = x := fun x h => h
  have Hs := Lib.hid hs
  have Hb := Lib.hid hbel
  clear hq hs hbel hr hr'
  by_cases e1 : an = bn
  · subst e1
    by_cases e2 : ac = bc
    · subst e2
      have H : Hid ((av == bv) = sameB ⟨an, ac, av⟩ ⟨an, ac, bv⟩) := by show _ = _; rw [Hs.out (av == bv) (by simp)]
      clear Hs
      have t1 : (an == an) = true := by simp
      have t2 : (ac == ac) = true := by simp
      go_enter Try.func24, Try.ntmps24
      go_wp2_with fail
      refine Hq.out.mono ?_; rintro e w1 ⟨rfl, hb1⟩
      go_wp2_with fail
      go_ret
      exact ⟨ret_bool H.out, Hb.out.trans (hb1.mono Hb.out.size)⟩
    · have H : Hid (false = sameB ⟨an, ac, av⟩ ⟨an, bc, bv⟩) := by show _ = _; rw [Hs.out false (by simp [e2])]
      have t2 : (ac == bc) = false := by simp [e2]
      have t1 : (an == an) = true := by simp
      clear Hs e2 Hq
      go_enter Try.func24, Try.ntmps24
      go_wp2_with fail
      go_ret
      exact ⟨ret_bool H.out, Hb.out⟩
  · have H : Hid (false = sameB ⟨an, ac, av⟩ ⟨bn, bc, bv⟩) := by show _ = _; rw [Hs.out false (by simp [e1])]
    have t1 : (an == bn) = false := by simp [e1]
    clear Hs e1 Hq
    go_enter Try.func24, Try.ntmps24
    go_wp2_with fail
    go_ret
    exact ⟨ret_bool H.out, Hb.out⟩

theorem of_any_t (u : Int) (w : World) :
    Calls Try.prog 56 #[.int .u8 u] w (RetT (ofT u) w) := by
  by_cases h : u = 0
  · subst h
    have hbel : Below w.heap.size w (w.alloc (Obj.cells #[.bool true, .int .u8 0, .slice none 0 0] 37)) := (Below.refl _ _).alloc (Nat.le_refl _) _
    go_enter Try.func56, Try.ntmps56
    go_wp2_with fail
    exact bodyPost_ret (v := .agg #[.bool true, .int .u8 0, .slice none 0 0]) (by simp [results, Try.results56, go_sem]) rfl ⟨none, 0, 0, rfl, RdI.nil, hbel⟩
  · have hb : (u == 0) = false := by simp [h]
    have hj : ofT u = ⟨false, leastI u, []⟩ := by unfold ofT; rw [if_neg h]
    have Hj := Lib.hid hj
    clear hj h
    go_enter Try.func56, Try.ntmps56
    go_wp2_with (first | (go_at_call 40; refine (least_any _ _).mono ?_; rintro e w' ⟨rfl, rfl⟩))
    have hbel : Below w.heap.size w (w.alloc (Obj.cells #[.bool false, .int .u8 (leastI u), .slice none 0 0] 37)) := (Below.refl _ _).alloc (Nat.le_refl _) _
    exact bodyPost_ret (v := .agg #[.bool false, .int .u8 (leastI u), .slice none 0 0]) (by simp [results, Try.results56, go_sem]) rfl (by rw [Hj.out]; exact ⟨none, 0, 0, rfl, RdI.nil, hbel⟩)

/-- what Clone returns, at ints -/
def CloneI (us : List Int) (n : Nat) (w : World) (e : Ending) (w' : World) : Prop :=
  ∃ A' c', e = .returned (.slice A' n c') ∧ w'.ownsRow w.heap.size 3 1 (.slice A' n c') n (us.map (Value.int .i64)) ∧ Below w.heap.size w w'
theorem cloneI_any (A : Option Addr) (n c : Nat) (us : List Int) (w : World) (B : Nat) (h : RdI .i64 w B A n c us) (hbig : n * 8 ≤ 140737488355328) :
    Calls Try.prog 67 #[.slice A n c] w (CloneI us n w) := by
  have hl := h.len
  have hcut : ∀ v' w', World.ownsRow w' w.heap.size 3 1 v' n (us.map (Value.int .i64)) → Below w.heap.size w w' → CloneI us n w (.returned v') w' := by
    intro v' w' ho hb
    rcases ho.2 with ⟨e0, hn0⟩ | ⟨g, cap, cur, e0, _⟩
    · subst hn0
      obtain rfl := List.eq_nil_of_length_eq_zero hl
      exact ⟨none, 0, by rw [e0], by rw [← e0]; exact ho, hb⟩
    · exact ⟨some ⟨g, 0, none⟩, cap, by rw [e0], by rw [← e0]; exact ho, hb⟩
  rcases Nat.eq_zero_or_pos n with h0 | h0
  · subst h0
    obtain rfl := List.eq_nil_of_length_eq_zero hl
    cases A with
    | none =>
      refine (Try.slices_Clone_int_nil 0 c w).mono ?_
      rintro e w' ⟨rfl, rfl⟩
      exact hcut _ _ (World.ownsRow_nil _ _ _ _) (Below.refl _ _)
    | some a =>
      refine (Try.slices_Clone_int_zero a c w).mono ?_
      rintro e w' ⟨v', rfl, ho, _, hb⟩
      exact hcut _ _ ho hb
  · obtain ⟨b, off, rfl, hb, hcell⟩ := h.at_ h0
    refine (Try.slices_Clone_int b off n c us w (by omega) hbig (fun j hj => by rw [hcell j hj]; simp [List.getD, hj])).mono ?_
    rintro e w' ⟨v', rfl, ho, _, hb⟩
    rw [List.take_of_length_le (by omega)] at ho
    exact hcut _ _ ho hb

end Go.Proofs.Ytimlbpjdgnapoaa

/- The contracts of term.Least, term.At. -/
namespace Go.Proofs.Ytimlbpjdgnapoaa
set_option linter.unusedVariables false
set_option linter.unusedSimpArgs false
open Go.RowKit

theorem least_own_t (v : Value) (t : TermD) (w : World) (B : Nat) (hv : TermV w B v t) (hB : B ≤ w.heap.size) (hbig : t.vars.length * 8 ≤ 140737488355328) :
    Calls Try.prog 41 #[v] w fun e w' => ∃ A n c, e = .returned (.agg #[.bool (leastT t).never, .int .u8 (leastT t).c, .slice A n c]) ∧ RdI .i64 w' w'.heap.size A n c (leastT t).vars ∧ Below w.heap.size w w' ∧ ∀ a, A = some a → w.heap.size ≤ a.block := by
  obtain ⟨A, n, c, rfl, hr⟩ := hv
  obtain ⟨tn, tc, tv⟩ := t
  have hl := hr.len
  have hbel : Below w.heap.size w ((w.alloc (Obj.cells #[.bool tn, .int .u8 tc, .slice A n c] 37)).alloc (Obj.cells #[.bool false, .int .u8 0, .slice none 0 0] 37)) := ((Below.refl _ _).alloc (Nat.le_refl _) _).alloc (by simp) _
  cases tn
  · have hj : leastT ⟨false, tc, tv⟩ = ⟨false, tc, tv⟩ := rfl
    have Hj := Lib.hid hj
    have hq := cloneI_any A n c tv _ _ ((hr.more hB).below hbel) (by have : tv.length = n := hl; have h2 : tv.length * 8 ≤ 140737488355328 := hbig; omega)
    have Hq := Lib.hid hq
    clear hq hj hl hbig
    go_enter Try.func41, Try.ntmps41
    go_wp2_with fail
    refine Hq.out.mono ?_
    rintro e w1 ⟨A', c', rfl, hown, hb1⟩
    simp only [World.size_alloc] at hown hb1
    have hself : Blk w1 w.heap.size 37 #[.bool false, .int .u8 tc, .slice A n c] := by
      show w1.heap[w.heap.size]? = _
      rw [hb1.block _ (by omega), Below.heap_alloc _ _ _ (by simp)]
      exact heap_alloc_new w _
    have hself' : Blk w1 (w.heap.size + 1) 37 #[.bool false, .int .u8 0, .slice none 0 0] := by
      show w1.heap[w.heap.size + 1]? = _
      rw [hb1.block _ (by omega)]
      have := heap_alloc_new (w.alloc (Obj.cells #[.bool false, .int .u8 tc, .slice A n c] 37)) (Obj.cells #[.bool false, .int .u8 0, .slice none 0 0] 37)
      rw [World.size_alloc] at this
      exact this
    have hbel1 : Below w.heap.size w w1 := hbel.trans (hb1.mono (by omega))
    have c0 : w1.cell? ⟨w.heap.size, 0, none⟩ = some (.bool false) := hself.cell 0
    have c1 : w1.cell? ⟨w.heap.size, 1, none⟩ = some (.int .u8 tc) := hself.cell 1
    have c2 : w1.cell? ⟨w.heap.size, 2, none⟩ = some (.slice A n c) := hself.cell 2
    have f2 := hself.frozen 2
    have d0 : w1.cell? ⟨w.heap.size + 1, 0, none⟩ = some (.bool false) := hself'.cell 0
    have d1 : w1.cell? ⟨w.heap.size + 1, 1, none⟩ = some (.int .u8 0) := hself'.cell 1
    have d2 : w1.cell? ⟨w.heap.size + 1, 2, none⟩ = some (.slice none 0 0) := hself'.cell 2
    have g0 := hself'.frozen 0
    have g1 := hself'.frozen 1
    have g2 := hself'.frozen 2
    go_wp2_with fail
    have hs := (hself'.other (g' := w.heap.size) (by omega) 2 (.slice A' n c')).set3 (.bool false) (.int .u8 tc) (.slice A' n c')
    have ho := ownsRow_setCell_below (ownsRow_setCell_below (ownsRow_setCell_below (ownsRow_setCell_below hown (a := ⟨w.heap.size, 2, none⟩) (by show w.heap.size < _; omega) (.slice A' n c')) (a := ⟨w.heap.size + 1, 0, none⟩) (by show w.heap.size + 1 < _; omega) (.bool false)) (a := ⟨w.heap.size + 1, 1, none⟩) (by show w.heap.size + 1 < _; omega) (.int .u8 tc)) (a := ⟨w.heap.size + 1, 2, none⟩) (by show w.heap.size + 1 < _; omega) (.slice A' n c')
    have hb3 := (((hbel1.setCell (p := ⟨w.heap.size, 2, none⟩) (Nat.le_refl _) (.slice A' n c')).setCell (p := ⟨w.heap.size + 1, 0, none⟩) (Nat.le_succ _) (.bool false)).setCell (p := ⟨w.heap.size + 1, 1, none⟩) (Nat.le_succ _) (.int .u8 tc)).setCell (p := ⟨w.heap.size + 1, 2, none⟩) (Nat.le_succ _) (.slice A' n c')
    generalize ((((w1.setCell ⟨w.heap.size, 2, none⟩ (.slice A' n c')).setCell ⟨w.heap.size + 1, 0, none⟩ (.bool false)).setCell ⟨w.heap.size + 1, 1, none⟩ (.int .u8 tc)).setCell ⟨w.heap.size + 1, 2, none⟩ (.slice A' n c')) = W3 at hs ho hb3 ⊢
    have x0 : W3.cell? ⟨w.heap.size + 1, 0, none⟩ = some (.bool false) := hs.cell 0
    have x1 : W3.cell? ⟨w.heap.size + 1, 1, none⟩ = some (.int .u8 tc) := hs.cell 1
    have x2 : W3.cell? ⟨w.heap.size + 1, 2, none⟩ = some (.slice A' n c') := hs.cell 2
    exact bodyPost_ret (v := .agg #[.bool false, .int .u8 tc, .slice A' n c']) (by simp [results, Try.results41, go_sem, x0, x1, x2]) rfl ⟨A', n, c', rfl, RdI.of_own ho, hb3, fun a ha => by
      subst ha
      rcases ho.2 with ⟨e0, _⟩ | ⟨g, cap, cur, e0, hb, _⟩
      · cases e0
      · injection e0 with e1 _ _
        injection e1 with e1
        subst e1
        show w.heap.size ≤ g
        omega⟩
  · have hj : leastT ⟨true, tc, tv⟩ = ⟨false, 2, []⟩ := rfl
    have Hj := Lib.hid hj
    clear hj hl
    go_enter Try.func41, Try.ntmps41
    go_wp2_with fail
    have hb2 : Below w.heap.size w ((w.alloc (Obj.cells #[.bool true, .int .u8 tc, .slice A n c] 37)).alloc (Obj.cells #[.bool false, .int .u8 2, .slice none 0 0] 37)) := ((Below.refl _ _).alloc (Nat.le_refl _) _).alloc (by simp) _
    exact bodyPost_ret (v := .agg #[.bool false, .int .u8 2, .slice none 0 0]) (by simp [results, Try.results41, go_sem]) rfl ⟨none, 0, 0, rfl, RdI.nil, hb2, fun _ h => by cases h⟩
theorem least_any_t (v : Value) (t : TermD) (w : World) (B : Nat) (hv : TermV w B v t) (hB : B ≤ w.heap.size) (hbig : t.vars.length * 8 ≤ 140737488355328) :
    Calls Try.prog 41 #[v] w (RetT (leastT t) w) :=
  (least_own_t v t w B hv hB hbig).mono fun _ _ ⟨A, n, c, h1, h2, h3, _⟩ => ⟨A, n, c, h1, h2, h3⟩

theorem varsB_at (l : List Int) : ∀ n k, k < n → varsB l n = true → varB l k = true
  | 0, k, h, _ => absurd h (by omega)
  | n + 1, k, h, hf => by
    simp only [varsB, Bool.and_eq_true] at hf
    rcases Nat.lt_or_ge k n with h1 | h1
    · exact varsB_at l n k h1 hf.1
    · have : k = n := by omega
      subst this
      exact hf.2
theorem may_pos {t : TermD} (h : mayB t = true) (k : Nat) (hk : k < t.vars.length) : 0 ≤ t.vars[k] := by
  unfold mayB at h
  split at h
  · rw [Bool.and_eq_true, List.isEmpty_iff] at h
    rw [h.2] at hk
    simp at hk
  · rw [Bool.and_eq_true] at h
    have h1 := varsB_at _ _ k hk h.2
    unfold varB at h1
    rw [Bool.and_eq_true, Bool.and_eq_true, decide_eq_true_eq] at h1
    have h2 := h1.1.1
    rw [show t.vars.getD k 0 = t.vars[k] from by simp [List.getD, hk]] at h2
    exact h2

set_option maxHeartbeats 1000000 in
theorem at_any (v : Value) (t : TermD) (A' : Option Addr) (n' c' : Nat) (asg : List Int) (w : World) (B B' : Nat) (hv : TermV w B v t) (hB : B ≤ w.heap.size) (ha : RdI .u8 w B' A' n' c' asg) (hB' : B' ≤ w.heap.size) :
    Calls Try.prog 38 #[v, .slice A' n' c'] w fun e w' => e = .returned (.tuple #[.int .u8 (atR t asg).1, .int .i64 (atR t asg).2]) ∧ Below w.heap.size w w' := by
  obtain ⟨A, n, c, rfl, hr⟩ := hv
  have hl := hr.len
  have hla := ha.len
  have hn63 : n ≤ 9223372036854775807 := Nat.le_trans hr.2.1 hr.2.2
  have hbel : Below w.heap.size w (w.alloc (Obj.cells #[.bool t.never, .int .u8 t.c, .slice A n c] 37)) := (Below.refl _ _).alloc (Nat.le_refl _) _
  have hr1 := (hr.more hB).below hbel
  have ha1 := (ha.more hB').below hbel
  have hq := may_any (.agg #[.bool t.never, .int .u8 t.c, .slice A n c]) t _ w.heap.size ⟨A, n, c, rfl, hr1⟩ hbel.size
  have Hq := Lib.hid hq
  have Hl := Lib.hid hl
  have Hla := Lib.hid hla
  clear hq hl hla
  cases hm : mayB t
  · have hj : atR t asg = (0, 2) := by unfold atR; rw [hm]; rfl
    have Hj := Lib.hid hj
    have He := Lib.hid (mayE_no hm)
    clear hj hm
    go_enter Try.func38, Try.ntmps38
    go_wp2_with fail
    refine Hq.out.mono ?_; rintro e w1 ⟨rfl, hb1⟩
    rw [He.out]
    go_wp2_with fail
    go_ret2
    exact ⟨by rw [Hj.out]; rfl, hbel.trans (hb1.mono hbel.size)⟩
  · have hj : atR t asg = atGo asg t.c t.vars := by unfold atR; rw [hm]; rfl
    have Hj := Lib.hid hj
    have He := Lib.hid (mayE_yes hm)
    have Hpos := Lib.hid (may_pos hm)
    clear hj hm
    go_enter Try.func38, Try.ntmps38
    go_wp2_with fail
    refine Hq.out.mono ?_; rintro e w1 ⟨rfl, hb1⟩
    rw [He.out]
    have hself : Blk w1 w.heap.size 37 #[.bool t.never, .int .u8 t.c, .slice A n c] := by
      show w1.heap[w.heap.size]? = _
      rw [hb1.block _ (by simp)]
      exact heap_alloc_new w _
    have c0 : w1.cell? ⟨w.heap.size, 0, none⟩ = some (.bool t.never) := hself.cell 0
    have c1 : w1.cell? ⟨w.heap.size, 1, none⟩ = some (.int .u8 t.c) := hself.cell 1
    have c2 : w1.cell? ⟨w.heap.size, 2, none⟩ = some (.slice A n c) := hself.cell 2
    go_wp2_with fail
    have hbel1 : Below w.heap.size w w1 := hbel.trans (hb1.mono hbel.size)
    have hr2 := hr1.below (hb1.mono hbel.size)
    have ha2 := ha1.below (hb1.mono hbel.size)
    have Ha2 := Lib.hid ha2
    have Hr2 := Lib.hid hr2
    clear hr ha hr1 ha1 hbel hb1 hself c0 c1 c2 hr2 ha2 Hq He
    go_loopg [7, 20] n (fun g u i wr => ∃ (k : Nat) (x : Int), k ≤ n ∧ g = n - k ∧ i = .int .i64 k ∧ u = .int .u8 x ∧ Hid (atGo asg x (t.vars.drop k) = atGo asg t.c t.vars) ∧ w1 = wr)
    case atStart => exact ⟨0, t.c, Nat.zero_le _, rfl, rfl, rfl, Lib.hid rfl, rfl⟩
    case round =>
      obtain ⟨k, x, hk, rfl, rfl, rfl, Hx, rfl⟩ := hrel
      by_cases hlk : k < n
      · have hk' : k < t.vars.length := by rw [Hl.out]; exact hlk
        obtain ⟨b, off, rfl, hb, hcell⟩ := Hr2.out.at_ (by omega)
        have hc := hcell k hk'
        have hdrop : t.vars.drop k = t.vars[k] :: t.vars.drop (k + 1) := List.drop_eq_getElem_cons hk'
        obtain ⟨m, hm⟩ : ∃ m : Nat, t.vars[k] = (m : Int) := ⟨t.vars[k].toNat, (Int.toNat_of_nonneg (Hpos.out k hk')).symm⟩
        rw [hm] at hc hdrop
        have Hdrop := Lib.hid hdrop
        clear hdrop hm hcell
        by_cases hlt : m < n'
        · obtain ⟨b', off', rfl, hb', hcell'⟩ := Ha2.out.at_ (by omega)
          have hm' : m < asg.length := by rw [Hla.out]; exact hlt
          have hc' := hcell' m hm'
          have hav : atV asg m = asg[m] := by simp [atV, List.getD, hm']
          generalize asg[m] = y at hc' hav
          have Hav := Lib.hid hav
          clear hav hcell'
          have hml : ((m : Int) < asg.length) := by omega
          cases ho : oneB y
          · have H5 : Hid (atGo asg t.c t.vars = (0, 5)) := by
              show _ = _
              rw [← Hx.out, Hdrop.out]
              simp [atGo, okV, Hav.out, ho]
            have Ho := Lib.hid ho
            clear ho hml
            go_wp2_with (first | (refine (one_at _ _ Ho.out _).mono ?_; rintro e w2 ⟨rfl, rfl⟩))
            go_ret2
            exact ⟨by rw [Hj.out, H5.out]; rfl, hbel1⟩
          · have Hx' : Hid (atGo asg (scaleI y x) (t.vars.drop (k + 1)) = atGo asg t.c t.vars) := by
              show _ = _
              rw [← Hx.out, Hdrop.out]
              simp [atGo, okV, Hav.out, ho, hml]
            have Ho := Lib.hid ho
            clear ho hml
            go_wp2_with (first | (refine (one_at _ _ Ho.out _).mono ?_; rintro e w2 ⟨rfl, rfl⟩) | (go_at_call 39; refine (scale_any _ _ _).mono ?_; rintro e w2 ⟨rfl, rfl⟩))
            go_roundg (n - (k + 1))
            case measure => omega
            case rel => exact ⟨k + 1, scaleI y x, by omega, rfl, by go_num, rfl, Hx', rfl⟩
        · have H5 : Hid (atGo asg t.c t.vars = (0, 5)) := by
            show _ = _
            rw [← Hx.out, Hdrop.out]
            have : ¬ ((m : Int) < asg.length) := by have := Hla.out; omega
            simp [atGo, okV, this]
          have hge : n' ≤ m := by omega
          clear hlt
          go_wp2_with fail
          go_ret2
          exact ⟨by rw [Hj.out, H5.out]; rfl, hbel1⟩
      · have hkn : k = n := by omega
        subst hkn
        have H5 : Hid (atGo asg t.c t.vars = (x, 0)) := by
          show _ = _
          rw [← Hx.out, List.drop_of_length_le (by rw [Hl.out]; exact Nat.le_refl _)]
          rfl
        go_wp2_with fail
        go_ret2
        exact ⟨by rw [Hj.out, H5.out]; rfl, hbel1⟩

end Go.Proofs.Ytimlbpjdgnapoaa

/- The contract of term.Scale. -/
namespace Go.Proofs.Ytimlbpjdgnapoaa
set_option linter.unusedVariables false
set_option linter.unusedSimpArgs false
open Go.RowKit

/-- the world in which Scale's body begins -/
def W0 (c v : Int) (t : TermD) (A : Option Addr) (n cp : Nat) (w : World) : World :=
  ((w.alloc (Obj.cells #[.int .i64 v, .int .u8 c] 46)).alloc (Obj.cells #[.bool t.never, .int .u8 t.c, .slice A n cp] 37)).alloc (Obj.cells #[.bool false, .int .u8 0, .slice none 0 0] 37)
theorem W0_facts (c v : Int) (t : TermD) (A : Option Addr) (n cp : Nat) (w : World) : Below w.heap.size w (W0 c v t A n cp w) ∧ (W0 c v t A n cp w).heap.size = w.heap.size + 3 ∧
    Blk (W0 c v t A n cp w) w.heap.size 46 #[.int .i64 v, .int .u8 c] ∧ Blk (W0 c v t A n cp w) (w.heap.size + 1) 37 #[.bool t.never, .int .u8 t.c, .slice A n cp] ∧
    Blk (W0 c v t A n cp w) (w.heap.size + 1 + 1) 37 #[.bool false, .int .u8 0, .slice none 0 0] := by
  refine ⟨(((Below.refl _ _).alloc (Nat.le_refl _) _).alloc (by simp) _).alloc (by simp; omega) _, by simp [W0], ((blk_new _ _ _).alloc _).alloc _, ?_, ?_⟩
  · have h := (blk_new (w.alloc (Obj.cells #[.int .i64 v, .int .u8 c] 46)) #[.bool t.never, .int .u8 t.c, .slice A n cp] 37).alloc (Obj.cells #[.bool false, .int .u8 0, .slice none 0 0] 37)
    rw [World.size_alloc] at h
    exact h
  · have h := blk_new ((w.alloc (Obj.cells #[.int .i64 v, .int .u8 c] 46)).alloc (Obj.cells #[.bool t.never, .int .u8 t.c, .slice A n cp] 37)) #[.bool false, .int .u8 0, .slice none 0 0] 37
    rw [World.size_alloc, World.size_alloc] at h
    exact h

set_option maxHeartbeats 1000000 in
theorem scaleT_no (c v : Int) (tv : Value) (t : TermD) (w : World) (B : Nat) (hv : TermV w B tv t) (hB : B ≤ w.heap.size) (hno : (isB c v && mayB t) = false) :
    Calls Try.prog 59 #[.agg #[.int .i64 v, .int .u8 c], tv] w (RetTE zeroT 2 w) := by
  obtain ⟨A, n, cp, rfl, hr⟩ := hv
  obtain ⟨hb0, hs0, hm0, ht0, hz0⟩ := W0_facts c v t A n cp w
  have Hs0 := Lib.hid hs0
  have hq := is_any c v (W0 c v t A n cp w)
  have Hq := Lib.hid hq
  clear hq
  cases h1 : isB c v
  · have He := Lib.hid (isE_no h1)
    clear h1 hno
    go_enter Try.func59, Try.ntmps59
    go_wp2_with fail
    refine Hq.out.mono ?_; rintro e w1 ⟨rfl, hb1⟩
    rw [He.out]
    have hz1 := hz0.below hb1 (by omega)
    have hbel := hb0.trans (hb1.mono (by omega))
    have z0 : w1.cell? ⟨w.heap.size + 1 + 1, 0, none⟩ = some (.bool false) := hz1.cell 0
    have z1 : w1.cell? ⟨w.heap.size + 1 + 1, 1, none⟩ = some (.int .u8 0) := hz1.cell 1
    have z2 : w1.cell? ⟨w.heap.size + 1 + 1, 2, none⟩ = some (.slice none 0 0) := hz1.cell 2
    have f0 := hz1.frozen 0
    have f1 := hz1.frozen 1
    have f2 := hz1.frozen 2
    clear hs0
    go_wp2_with fail
    have hs := hz1.set3 (.bool false) (.int .u8 0) (.slice none 0 0)
    have hb3 := ((hbel.setCell (p := ⟨w.heap.size + 1 + 1, 0, none⟩) (by show w.heap.size ≤ w.heap.size + 1 + 1; omega) (.bool false)).setCell (p := ⟨w.heap.size + 1 + 1, 1, none⟩) (by show w.heap.size ≤ w.heap.size + 1 + 1; omega) (.int .u8 0)).setCell (p := ⟨w.heap.size + 1 + 1, 2, none⟩) (by show w.heap.size ≤ w.heap.size + 1 + 1; omega) (.slice none 0 0)
    generalize (((w1.setCell ⟨w.heap.size + 1 + 1, 0, none⟩ (.bool false)).setCell ⟨w.heap.size + 1 + 1, 1, none⟩ (.int .u8 0)).setCell ⟨w.heap.size + 1 + 1, 2, none⟩ (.slice none 0 0)) = W3 at hs hb3 ⊢
    have d0 : W3.cell? ⟨w.heap.size + 1 + 1, 0, none⟩ = some (.bool false) := hs.cell 0
    have d1 : W3.cell? ⟨w.heap.size + 1 + 1, 1, none⟩ = some (.int .u8 0) := hs.cell 1
    have d2 : W3.cell? ⟨w.heap.size + 1 + 1, 2, none⟩ = some (.slice none 0 0) := hs.cell 2
    exact bodyPost_ret (v := .tuple #[.agg #[.bool false, .int .u8 0, .slice none 0 0], .int .i64 2]) (by simp [results, Try.results59, go_sem, d0, d1, d2]) rfl ⟨none, 0, 0, rfl, RdI.nil, hb3⟩
  · have h2 : mayB t = false := by rw [h1] at hno; simpa using hno
    have He := Lib.hid (isE_yes h1)
    have He2 := Lib.hid (mayE_no h2)
    clear h1 h2 hno
    go_enter Try.func59, Try.ntmps59
    go_wp2_with fail
    refine Hq.out.mono ?_; rintro e w1 ⟨rfl, hb1⟩
    rw [He.out]
    have hz1 := hz0.below hb1 (by omega)
    have ht1 := ht0.below hb1 (by omega)
    have hbel := hb0.trans (hb1.mono (by omega))
    have hr1 := (hr.more hB).below hbel
    have hg1 : w.heap.size + 3 ≤ w1.heap.size := by have := hb1.size; omega
    have hq2 := may_any (.agg #[.bool t.never, .int .u8 t.c, .slice A n cp]) t w1 w.heap.size ⟨A, n, cp, rfl, hr1⟩ (by omega)
    have Hq2 := Lib.hid hq2
    have x0 : w1.cell? ⟨w.heap.size + 1, 0, none⟩ = some (.bool t.never) := ht1.cell 0
    have x1 : w1.cell? ⟨w.heap.size + 1, 1, none⟩ = some (.int .u8 t.c) := ht1.cell 1
    have x2 : w1.cell? ⟨w.heap.size + 1, 2, none⟩ = some (.slice A n cp) := ht1.cell 2
    clear hs0 hq2
    go_wp2_with fail
    refine Hq2.out.mono ?_; rintro e w2 ⟨rfl, hb2⟩
    rw [He2.out]
    have hz2 := hz1.below hb2 (by omega)
    have hbel2 := hbel.trans (hb2.mono (by omega))
    have z0 : w2.cell? ⟨w.heap.size + 1 + 1, 0, none⟩ = some (.bool false) := hz2.cell 0
    have z1 : w2.cell? ⟨w.heap.size + 1 + 1, 1, none⟩ = some (.int .u8 0) := hz2.cell 1
    have z2 : w2.cell? ⟨w.heap.size + 1 + 1, 2, none⟩ = some (.slice none 0 0) := hz2.cell 2
    have f0 := hz2.frozen 0
    have f1 := hz2.frozen 1
    have f2 := hz2.frozen 2
    go_wp2_with fail
    have hs := hz2.set3 (.bool false) (.int .u8 0) (.slice none 0 0)
    have hb3 := ((hbel2.setCell (p := ⟨w.heap.size + 1 + 1, 0, none⟩) (by show w.heap.size ≤ w.heap.size + 1 + 1; omega) (.bool false)).setCell (p := ⟨w.heap.size + 1 + 1, 1, none⟩) (by show w.heap.size ≤ w.heap.size + 1 + 1; omega) (.int .u8 0)).setCell (p := ⟨w.heap.size + 1 + 1, 2, none⟩) (by show w.heap.size ≤ w.heap.size + 1 + 1; omega) (.slice none 0 0)
    generalize (((w2.setCell ⟨w.heap.size + 1 + 1, 0, none⟩ (.bool false)).setCell ⟨w.heap.size + 1 + 1, 1, none⟩ (.int .u8 0)).setCell ⟨w.heap.size + 1 + 1, 2, none⟩ (.slice none 0 0)) = W3 at hs hb3 ⊢
    have d0 : W3.cell? ⟨w.heap.size + 1 + 1, 0, none⟩ = some (.bool false) := hs.cell 0
    have d1 : W3.cell? ⟨w.heap.size + 1 + 1, 1, none⟩ = some (.int .u8 0) := hs.cell 1
    have d2 : W3.cell? ⟨w.heap.size + 1 + 1, 2, none⟩ = some (.slice none 0 0) := hs.cell 2
    exact bodyPost_ret (v := .tuple #[.agg #[.bool false, .int .u8 0, .slice none 0 0], .int .i64 2]) (by simp [results, Try.results59, go_sem, d0, d1, d2]) rfl ⟨none, 0, 0, rfl, RdI.nil, hb3⟩

set_option maxRecDepth 100000 in
set_option maxHeartbeats 1000000 in
theorem scaleT_yes (c v : Int) (tv : Value) (t : TermD) (w : World) (B : Nat) (hv : TermV w B tv t) (hB : B ≤ w.heap.size) (h1 : isB c v = true) (h2 : mayB t = true) (hbig : t.vars.length ≤ 1099511627776) :
    Calls Try.prog 59 #[.agg #[.int .i64 v, .int .u8 c], tv] w (RetTE (scaleT c v t) 0 w) := by
  have hmx := @run_max2 Try.prog
  obtain ⟨A, n, cp, rfl, hr⟩ := hv
  obtain ⟨hb0, hs0, hm0, ht0, hz0⟩ := W0_facts c v t A n cp w
  have Hs0 := Lib.hid hs0
  have hq := is_any c v (W0 c v t A n cp w)
  have Hq := Lib.hid hq
  have hlv := hr.len
  have Hlv := Lib.hid hlv
  have Hbig := Lib.hid hbig
  have He := Lib.hid (isE_yes h1)
  have He2 := Lib.hid (mayE_yes h2)
  clear hq h1 h2 hlv hbig
  go_enter Try.func59, Try.ntmps59
  go_wp2_with fail
  refine Hq.out.mono ?_; rintro e w1 ⟨rfl, hb1⟩
  rw [He.out]
  have hm1 := hm0.below hb1 (by omega)
  have hz1 := hz0.below hb1 (by omega)
  have ht1 := ht0.below hb1 (by omega)
  have hbel := hb0.trans (hb1.mono (by omega))
  have hr1 := (hr.more hB).below hbel
  have hg1 : w.heap.size + 3 ≤ w1.heap.size := by have := hb1.size; omega
  have hq2 := may_any (.agg #[.bool t.never, .int .u8 t.c, .slice A n cp]) t w1 w.heap.size ⟨A, n, cp, rfl, hr1⟩ (by omega)
  have Hq2 := Lib.hid hq2
  have x0 : w1.cell? ⟨w.heap.size + 1, 0, none⟩ = some (.bool t.never) := ht1.cell 0
  have x1 : w1.cell? ⟨w.heap.size + 1, 1, none⟩ = some (.int .u8 t.c) := ht1.cell 1
  have x2 : w1.cell? ⟨w.heap.size + 1, 2, none⟩ = some (.slice A n cp) := ht1.cell 2
  clear hs0 hq2
  go_wp2_with fail
  refine Hq2.out.mono ?_; rintro e w2 ⟨rfl, hb2⟩
  rw [He2.out]
  have hm2 := hm1.below hb2 (by omega)
  have hz2 := hz1.below hb2 (by omega)
  have ht2 := ht1.below hb2 (by omega)
  have hbel2 := hbel.trans (hb2.mono (by omega))
  have hr2 := hr1.below (hb2.mono (by omega))
  have hg2 : w.heap.size + 3 ≤ w2.heap.size := by have := hb2.size; omega
  clear x0 x1 x2 hb0 hm0 ht0 hz0 hb1 hm1 hz1 ht1 hbel hr hr1 Hq Hq2 He He2 hb2
  have z0 : w2.cell? ⟨w.heap.size + 1 + 1, 0, none⟩ = some (.bool false) := hz2.cell 0
  have z1 : w2.cell? ⟨w.heap.size + 1 + 1, 1, none⟩ = some (.int .u8 0) := hz2.cell 1
  have z2 : w2.cell? ⟨w.heap.size + 1 + 1, 2, none⟩ = some (.slice none 0 0) := hz2.cell 2
  have f0 := hz2.frozen 0
  have f1 := hz2.frozen 1
  have f2 := hz2.frozen 2
  have m0 : w2.cell? ⟨w.heap.size, 0, none⟩ = some (.int .i64 v) := hm2.cell 0
  have m1 : w2.cell? ⟨w.heap.size, 1, none⟩ = some (.int .u8 c) := hm2.cell 1
  cases htn : t.never
  · rw [htn] at ht2
    have y0 : w2.cell? ⟨w.heap.size + 1, 0, none⟩ = some (.bool false) := ht2.cell 0
    have y1 : w2.cell? ⟨w.heap.size + 1, 1, none⟩ = some (.int .u8 t.c) := ht2.cell 1
    have y2 : w2.cell? ⟨w.heap.size + 1, 2, none⟩ = some (.slice A n cp) := ht2.cell 2
    by_cases hc : c = 0
    · have hcb : (c == 0) = true := by simp [hc]
      have hj : scaleT c v t = cleanT t.c (t.vars ++ [v]) := by unfold scaleT; rw [htn, if_neg (by simp), if_pos hc]
      have Hj := Lib.hid hj
      have Hl8 : Hid (n * 8 ≤ 140737488355328) := by show n * 8 ≤ 140737488355328; have := Hbig.out; rw [Hlv.out] at this; omega
      have Hl9 : Hid ((n + 1) * 8 ≤ 140737488355328) := by show (n + 1) * 8 ≤ 140737488355328; have := Hbig.out; rw [Hlv.out] at this; omega
      have Hn63 : Hid (n + 1 ≤ maxLen) := by show n + 1 ≤ 9223372036854775807; have := Hbig.out; rw [Hlv.out] at this; omega
      obtain ⟨i0, hi0, hi1, hi2, hi3⟩ := info_parts intInfo
      have hnb : w.heap.size + 1 ≠ w.heap.size + 1 + 1 := by omega
      have hnb0 : w.heap.size ≠ w.heap.size + 1 + 1 := by omega
      have hl1 : w.heap.size + 1 < w2.heap.size := by omega
      have hl0 : w.heap.size < w2.heap.size := by omega
      have hx : ∀ w', Below w2.heap.size w2 w' → w'.cell? ⟨w.heap.size + 1, 1, none⟩ = some (.int .u8 t.c) ∧ w'.cell? ⟨w.heap.size + 1, 2, none⟩ = some (.slice A n cp) ∧ w'.cell? ⟨w.heap.size, 0, none⟩ = some (.int .i64 v) :=
        fun w' hb => ⟨(hb.cell (p := ⟨w.heap.size + 1, 1, none⟩) hl1).trans y1, (hb.cell (p := ⟨w.heap.size + 1, 2, none⟩) hl1).trans y2, (hb.cell (p := ⟨w.heap.size, 0, none⟩) hl0).trans m0⟩
      have Hx := Lib.hid hx
      have Hr2 := Lib.hid hr2
      clear hj htn hr2 hx
      go_wp2_with fail
      go_region_held3 (fun w' => w'.cell? ⟨w.heap.size + 1, 1, none⟩ = some (.int .u8 t.c) ∧ w'.cell? ⟨w.heap.size + 1, 2, none⟩ = some (.slice A n cp) ∧ w'.cell? ⟨w.heap.size, 0, none⟩ = some (.int .i64 v))
        (first | (go_keep; done) | (refine ⟨?_, ?_, ?_⟩ <;> (go_keep; done)) | exact Hx.out _ (Below.refl _ _).drew | exact Hx.out _ hbx | exact Hx.out _ ((Below.refl _ _).drew.alloc (Nat.le_refl _) _) | exact Hx.out _ (hbx.alloc hbx.size _) | exact ⟨(set3_other _ _ hnb _ _ _).trans (Hx.out _ hbx).1, (set3_other _ _ hnb _ _ _).trans (Hx.out _ hbx).2.1, (set3_other _ _ hnb0 _ _ _).trans (Hx.out _ hbx).2.2⟩)
        (first
          | (go_at_call 67; refine (cloneI_any A n cp t.vars w2.drew w.heap.size (Hr2.out.keep (w' := w2.drew) fun _ _ => rfl) Hl8.out).mono ?_; rintro e w3 ⟨A3, c3, rfl, hown3, hb3⟩; have hbx : Below w2.heap.size w2 w3 := ((Below.refl _ _).drew).trans hb3)
          | (go_at_call 67; refine (cloneI_any A n cp t.vars (w2.drew.alloc (Obj.cells #[.int .i64 v] 3)) w.heap.size (Hr2.out.keep (w' := w2.drew.alloc (Obj.cells #[.int .i64 v] 3)) fun p hp => ((Below.refl w2.heap.size w2).drew.alloc (Nat.le_refl _) _).cell (by omega)) Hl8.out).mono ?_; rintro e w3 ⟨A3, c3, rfl, hown3, hb3⟩; have hbx : Below w2.heap.size w2 w3 := ((Below.refl w2.heap.size w2).drew.alloc (Nat.le_refl _) _).trans (hb3.mono (by simp)))
          | (refine step_append_rd (o := ⟨some 40, _, _, _, _, _⟩) _ (by rfl) (.tmp 36) (.tmp 39) 35 (by rfl) w2.heap.size 3 i0 _ 1 8 Try.underlying35 hi0 hi1 hi2 hi3 rfl (by omega) (.slice A3 n c3) n (t.vars.map (Value.int .i64)) (by rfl) (hown3.alloc _) (w3.heap.size + 1) (some ⟨w3.heap.size, 0, none⟩) 1 1 [.int .i64 v] (by rfl) (rd_new1 _ _ _) (by intro u hu; simp at hu; subst hu; rfl) Hn63.out Hl9.out (by have := hbx.size; simp; omega) ?_; intro v4 w4 ho4 hg4 hat4;
              have hbx := (hbx.alloc hbx.size (Obj.cells #[.int .i64 v] 3)).grown hg4 (by have := hbx.size; simp; omega) (fun j hj => (hown3.lt j hj).1);
              obtain ⟨A4, c4, rfl, hr4⟩ := own_slice ho4)
          | (refine step_append_rd (o := ⟨some 40, _, _, _, _, _⟩) _ (by rfl) (.tmp 36) (.tmp 39) 35 (by rfl) (w2.drew.alloc (Obj.cells #[.int .i64 v] 3)).heap.size 3 i0 _ 1 8 Try.underlying35 hi0 hi1 hi2 hi3 rfl (by omega) (.slice A3 n c3) n (t.vars.map (Value.int .i64)) (by rfl) hown3 (w2.heap.size + 1) (some ⟨w2.heap.size, 0, none⟩) 1 1 [.int .i64 v] (by rfl) ((rd_new1 w2.drew (.int .i64 v) 3).keep fun p hp => hb3.cell (by have hp' : p.block < w2.heap.size + 1 := hp; simpa using hp')) (by intro u hu; simp at hu; subst hu; rfl) Hn63.out Hl9.out hb3.size ?_; intro v4 w4 ho4 hg4 hat4;
              have hbx := hbx.grown hg4 hbx.size (fun j hj => by have := (hown3.lt j hj).1; simp at this; omega);
              obtain ⟨A4, c4, rfl, hr4⟩ := own_slice ho4)
          | (go_at_call 73; refine (clean_any t.c A4 (n + 1) c4 (t.vars ++ [v]) w4 w4.heap.size hr4 (Nat.le_refl _) Hl9.out).mono ?_; rintro e w5 ⟨A7, n7, c7, rfl, hr7, hb7⟩;
              have hbx := hbx.trans (hb7.mono hbx.size); have hz5 := hz2.below hbx hz2.lt; generalize cleanT t.c (t.vars ++ [v]) = T at Hj hr7;
              have g0 : w5.cell? ⟨w.heap.size + 1 + 1, 0, none⟩ = some (.bool false) := hz5.cell 0; have g1 : w5.cell? ⟨w.heap.size + 1 + 1, 1, none⟩ = some (.int .u8 0) := hz5.cell 1; have g2 : w5.cell? ⟨w.heap.size + 1 + 1, 2, none⟩ = some (.slice none 0 0) := hz5.cell 2;
              have p0 := hz5.frozen 0; have p1 := hz5.frozen 1; have p2 := hz5.frozen 2))
      all_goals
        have hb5 := hbel2.trans (hbx.mono (by omega))
        have Hr7 := Lib.hid hr7
        go_wp2_with fail
        have hs := hz5.set3 (.bool T.never) (.int .u8 T.c) (.slice A7 n7 c7)
        have hb3 := ((hb5.setCell (p := ⟨w.heap.size + 1 + 1, 0, none⟩) (by show w.heap.size ≤ w.heap.size + 1 + 1; omega) (.bool T.never)).setCell (p := ⟨w.heap.size + 1 + 1, 1, none⟩) (by show w.heap.size ≤ w.heap.size + 1 + 1; omega) (.int .u8 T.c)).setCell (p := ⟨w.heap.size + 1 + 1, 2, none⟩) (by show w.heap.size ≤ w.heap.size + 1 + 1; omega) (.slice A7 n7 c7)
        have hr8 := Hr7.out.put3 hz5 (.bool T.never) (.int .u8 T.c) (.slice A7 n7 c7)
        have hr9 := hr8.more (B' := (((w5.setCell ⟨w.heap.size + 1 + 1, 0, none⟩ (.bool T.never)).setCell ⟨w.heap.size + 1 + 1, 1, none⟩ (.int .u8 T.c)).setCell ⟨w.heap.size + 1 + 1, 2, none⟩ (.slice A7 n7 c7)).heap.size) (by simp)
        generalize (((w5.setCell ⟨w.heap.size + 1 + 1, 0, none⟩ (.bool T.never)).setCell ⟨w.heap.size + 1 + 1, 1, none⟩ (.int .u8 T.c)).setCell ⟨w.heap.size + 1 + 1, 2, none⟩ (.slice A7 n7 c7)) = W3 at hs hb3 hr9 ⊢
        have d0 : W3.cell? ⟨w.heap.size + 1 + 1, 0, none⟩ = some (.bool T.never) := hs.cell 0
        have d1 : W3.cell? ⟨w.heap.size + 1 + 1, 1, none⟩ = some (.int .u8 T.c) := hs.cell 1
        have d2 : W3.cell? ⟨w.heap.size + 1 + 1, 2, none⟩ = some (.slice A7 n7 c7) := hs.cell 2
        exact bodyPost_ret (v := .tuple #[.agg #[.bool T.never, .int .u8 T.c, .slice A7 n7 c7], .int .i64 0]) (by simp [results, Try.results59, go_sem, d0, d1, d2]) rfl (by rw [Hj.out]; exact ⟨A7, n7, c7, rfl, hr9, hb3⟩)
    · have hcb : (c == 0) = false := by simp [hc]
      have hj : scaleT c v t = cleanT (max c t.c) t.vars := by unfold scaleT; rw [htn, if_neg (by simp), if_neg hc]
      have Hj := Lib.hid hj
      clear hj htn
      have Hl8 : Hid (n * 8 ≤ 140737488355328) := by show n * 8 ≤ 140737488355328; have := Hbig.out; rw [Hlv.out] at this; omega
      have Hr2 := Lib.hid hr2
      clear hr2
      go_wp2_with fail
      refine (clean_any (max c t.c) A n cp t.vars w2 w.heap.size Hr2.out (by omega) Hl8.out).mono ?_
      rintro e w5 ⟨A7, n7, c7, rfl, hr7, hb7⟩
      have hz5 := hz2.below hb7 hz2.lt
      have hb5 := hbel2.trans (hb7.mono (by omega))
      generalize cleanT (max c t.c) t.vars = T at Hj hr7
      have g0 : w5.cell? ⟨w.heap.size + 1 + 1, 0, none⟩ = some (.bool false) := hz5.cell 0
      have g1 : w5.cell? ⟨w.heap.size + 1 + 1, 1, none⟩ = some (.int .u8 0) := hz5.cell 1
      have g2 : w5.cell? ⟨w.heap.size + 1 + 1, 2, none⟩ = some (.slice none 0 0) := hz5.cell 2
      have p0 := hz5.frozen 0
      have p1 := hz5.frozen 1
      have p2 := hz5.frozen 2
      have Hr7 := Lib.hid hr7
      clear hr7 hz2 hbel2 hb7 Hr2 f0 f1 f2 z0 z1 z2 y0 y1 y2 m0 m1
      go_wp2_with fail
      have hs := hz5.set3 (.bool T.never) (.int .u8 T.c) (.slice A7 n7 c7)
      have hb3 := ((hb5.setCell (p := ⟨w.heap.size + 1 + 1, 0, none⟩) (by show w.heap.size ≤ w.heap.size + 1 + 1; omega) (.bool T.never)).setCell (p := ⟨w.heap.size + 1 + 1, 1, none⟩) (by show w.heap.size ≤ w.heap.size + 1 + 1; omega) (.int .u8 T.c)).setCell (p := ⟨w.heap.size + 1 + 1, 2, none⟩) (by show w.heap.size ≤ w.heap.size + 1 + 1; omega) (.slice A7 n7 c7)
      have hr8 := Hr7.out.put3 hz5 (.bool T.never) (.int .u8 T.c) (.slice A7 n7 c7)
      have hr9 := hr8.more (B' := (((w5.setCell ⟨w.heap.size + 1 + 1, 0, none⟩ (.bool T.never)).setCell ⟨w.heap.size + 1 + 1, 1, none⟩ (.int .u8 T.c)).setCell ⟨w.heap.size + 1 + 1, 2, none⟩ (.slice A7 n7 c7)).heap.size) (by simp)
      generalize (((w5.setCell ⟨w.heap.size + 1 + 1, 0, none⟩ (.bool T.never)).setCell ⟨w.heap.size + 1 + 1, 1, none⟩ (.int .u8 T.c)).setCell ⟨w.heap.size + 1 + 1, 2, none⟩ (.slice A7 n7 c7)) = W3 at hs hb3 hr9 ⊢
      have d0 : W3.cell? ⟨w.heap.size + 1 + 1, 0, none⟩ = some (.bool T.never) := hs.cell 0
      have d1 : W3.cell? ⟨w.heap.size + 1 + 1, 1, none⟩ = some (.int .u8 T.c) := hs.cell 1
      have d2 : W3.cell? ⟨w.heap.size + 1 + 1, 2, none⟩ = some (.slice A7 n7 c7) := hs.cell 2
      exact bodyPost_ret (v := .tuple #[.agg #[.bool T.never, .int .u8 T.c, .slice A7 n7 c7], .int .i64 0]) (by simp [results, Try.results59, go_sem, d0, d1, d2]) rfl (by rw [Hj.out]; exact ⟨A7, n7, c7, rfl, hr9, hb3⟩)
  · rw [htn] at ht2
    have y0 : w2.cell? ⟨w.heap.size + 1, 0, none⟩ = some (.bool true) := ht2.cell 0
    have y1 : w2.cell? ⟨w.heap.size + 1, 1, none⟩ = some (.int .u8 t.c) := ht2.cell 1
    have y2 : w2.cell? ⟨w.heap.size + 1, 2, none⟩ = some (.slice A n cp) := ht2.cell 2
    have hj : scaleT c v t = ⟨true, t.c, t.vars⟩ := by unfold scaleT; rw [if_pos htn]; cases t; simp at htn; subst htn; rfl
    have Hj := Lib.hid hj
    clear hj htn
    go_wp2_with fail
    have hs := hz2.set3 (.bool true) (.int .u8 t.c) (.slice A n cp)
    have hb3 := ((hbel2.setCell (p := ⟨w.heap.size + 1 + 1, 0, none⟩) (by show w.heap.size ≤ w.heap.size + 1 + 1; omega) (.bool true)).setCell (p := ⟨w.heap.size + 1 + 1, 1, none⟩) (by show w.heap.size ≤ w.heap.size + 1 + 1; omega) (.int .u8 t.c)).setCell (p := ⟨w.heap.size + 1 + 1, 2, none⟩) (by show w.heap.size ≤ w.heap.size + 1 + 1; omega) (.slice A n cp)
    have hr8 := (hr2.more (B' := w2.heap.size) (by omega)).put3 hz2 (.bool true) (.int .u8 t.c) (.slice A n cp)
    have hr9 := hr8.more (B' := (((w2.setCell ⟨w.heap.size + 1 + 1, 0, none⟩ (.bool true)).setCell ⟨w.heap.size + 1 + 1, 1, none⟩ (.int .u8 t.c)).setCell ⟨w.heap.size + 1 + 1, 2, none⟩ (.slice A n cp)).heap.size) (by simp)
    generalize (((w2.setCell ⟨w.heap.size + 1 + 1, 0, none⟩ (.bool true)).setCell ⟨w.heap.size + 1 + 1, 1, none⟩ (.int .u8 t.c)).setCell ⟨w.heap.size + 1 + 1, 2, none⟩ (.slice A n cp)) = W3 at hs hb3 hr9 ⊢
    have d0 : W3.cell? ⟨w.heap.size + 1 + 1, 0, none⟩ = some (.bool true) := hs.cell 0
    have d1 : W3.cell? ⟨w.heap.size + 1 + 1, 1, none⟩ = some (.int .u8 t.c) := hs.cell 1
    have d2 : W3.cell? ⟨w.heap.size + 1 + 1, 2, none⟩ = some (.slice A n cp) := hs.cell 2
    exact bodyPost_ret (v := .tuple #[.agg #[.bool true, .int .u8 t.c, .slice A n cp], .int .i64 0]) (by simp [results, Try.results59, go_sem, d0, d1, d2]) rfl (by rw [Hj.out]; exact ⟨A, n, cp, rfl, hr9, hb3⟩)

end Go.Proofs.Ytimlbpjdgnapoaa

