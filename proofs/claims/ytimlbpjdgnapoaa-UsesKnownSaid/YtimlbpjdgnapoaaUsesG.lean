/- uses.Join, Sum, Scale. -/
import Derived.Test.YtimlbpjdgnapoaaUsesF
import Derived.Test.YtimlbpjdgnapoaaPlB
import Derived.Deep.RegionHeld3
namespace Go.Proofs.Ytimlbpjdgnapoaa
set_option linter.unusedVariables false
set_option linter.unusedSimpArgs false
open Go.RowKit Go.Sort

theorem rises_len {l : List Int} (hr : Rises l) (h : ∀ v ∈ l, 0 ≤ v ∧ v < 1048576) : l.length ≤ 1048576 := by
  have key : ∀ (l : List Int) (a : Int), Rises l → (∀ v ∈ l, a ≤ v ∧ v < 1048576) → a ≤ 1048576 → (l.length : Int) ≤ 1048576 - a := by
    intro l
    induction l with
    | nil => intro a _ _ h; simp; omega
    | cons x l ih =>
      intro a hr h ha
      have hx := h x (by simp)
      have h1 := ih (x + 1) (List.Pairwise.of_cons hr) (fun v hv => ⟨by have := List.rel_of_pairwise_cons hr hv; omega, (h v (by simp [hv])).2⟩) (by omega)
      rw [List.length_cons]
      omega
  have := key l 0 hr h (by omega)
  omega
theorem may_vars_len {t : TermD} (h : mayB t = true) : t.vars.length ≤ 1048576 := by
  rcases (may_iff t).1 h with ⟨_, _, e⟩ | ⟨_, _, _, _, h1, h2⟩
  · rw [e]; simp
  · exact rises_len h1 h2
theorem never_may : mayB ⟨true, 0, []⟩ = true := by decide
theorem mayU_ofU {l : List UseD} (h : mayU l = true) (v : Int) : mayB (ofU l v) = true := by
  unfold ofU
  split
  · rename_i x hx
    exact ((mayFrom_rise _ _ h).1 x (List.mem_of_find?_eq_some hx)).2.2.2.2
  · exact never_may
theorem allMay_of {ls : List (List UseD)} (h : ∀ l ∈ ls, mayU l = true) (v : Int) : allMay (ls.map fun l => ofU l v) = true := by
  unfold allMay
  simp only [List.all_map, List.all_eq_true]
  intro l hl
  exact mayU_ofU (h l hl) v
theorem joinVs_small {ts : List TermD} (h : ∀ t ∈ ts, mayB t = true) : (joinVs ts).length ≤ ts.length * 1048576 := by
  induction ts with
  | nil => simp [joinVs]
  | cons t ts ih =>
    have h1 := ih fun t ht => h t (by simp [ht])
    have h2 := may_vars_len (h t (by simp))
    simp only [joinVs, List.flatMap_cons, List.length_append, List.length_cons] at h1 ⊢
    omega
theorem any_may {ls : List (List UseD)} (h : ls.any (fun x => !mayU x) = false) : ∀ l ∈ ls, mayU l = true := fun l hl => by
  rw [List.any_eq_false] at h
  have := h l hl
  simpa using this

theorem enters_tjoin : Enters 44 := fun args w => by kernel_rfl
theorem enters_tsum : Enters 45 := fun args w => by kernel_rfl
theorem enters_scale1 : Enters 58 := fun args w => by kernel_rfl

--@REP X|J|fr join|joinT|Join sum|sumT|Sum
--@END
theorem joinU_any (A : Option Addr) (n c : Nat) (ls : List (List UseD)) (w : World) (hr : LsV w w.heap.size A n c ls) (hn : n ≤ 1048576) (hV : (varsOf ls).length ≤ 1048576) :
    Calls Try.prog 10 #[.slice A n c] w (if ls.any (fun x => !mayU x) then RetUE [] 2 w else RetUE (eachU joinT ls) 0 w) := by
  cases hb : ls.any (fun x => !mayU x) with
  | true =>
    have hc := each_no A n c (.func (.func 44) #[] #[]) ls w hr hb
    have Hc := Lib.hid hc
    clear hc hr hb
    rw [if_pos rfl]
    go_enter Try.func10, Try.ntmps10
    go_wp2_with fail
    refine Hc.out.mono ?_; rintro e w1 ⟨A1, n1, c1, rfl, hu, hb1⟩
    go_wp2_with fail
    exact bodyPost_ret (v := .tuple #[.slice A1 n1 c1, .int .i64 2]) (by simp [results, Try.results10, go_sem]) rfl ⟨A1, n1, c1, rfl, hu, hb1⟩
  | false =>
    have hm := any_may hb
    have hlen := hr.len
    have hc := each_yes A n c 44 enters_tjoin joinT ls w hr hb hn hV (fun v A m c w' hv hb' ht => by
      have hml : m ≤ 1048576 := by rw [← ht.1, List.length_map, hlen]; exact hn
      refine join_fresh A m c _ w' ht (allMay_of hm v) (by omega) ?_
      have h1 := joinVs_small (ts := ls.map fun l => ofU l v) (fun t ht => by obtain ⟨l, hl, rfl⟩ := List.mem_map.1 ht; exact mayU_ofU (hm l hl) v)
      rw [ht.1] at h1
      have : m * 1048576 ≤ 1048576 * 1048576 := Nat.mul_le_mul_right _ hml
      omega)
    have Hc := Lib.hid hc
    clear hc hr hb hm
    rw [if_neg (by simp)]
    go_enter Try.func10, Try.ntmps10
    go_wp2_with fail
    refine Hc.out.mono ?_; rintro e w1 ⟨A1, n1, c1, rfl, hu, hb1⟩
    go_wp2_with fail
    exact bodyPost_ret (v := .tuple #[.slice A1 n1 c1, .int .i64 0]) (by simp [results, Try.results10, go_sem]) rfl ⟨A1, n1, c1, rfl, hu, hb1⟩
theorem sumU_any (A : Option Addr) (n c : Nat) (ls : List (List UseD)) (w : World) (hr : LsV w w.heap.size A n c ls) (hn : n ≤ 1048576) (hV : (varsOf ls).length ≤ 1048576) :
    Calls Try.prog 11 #[.slice A n c] w (if ls.any (fun x => !mayU x) then RetUE [] 2 w else RetUE (eachU sumT ls) 0 w) := by
  cases hb : ls.any (fun x => !mayU x) with
  | true =>
    have hc := each_no A n c (.func (.func 45) #[] #[]) ls w hr hb
    have Hc := Lib.hid hc
    clear hc hr hb
    rw [if_pos rfl]
    go_enter Try.func11, Try.ntmps11
    go_wp2_with fail
    refine Hc.out.mono ?_; rintro e w1 ⟨A1, n1, c1, rfl, hu, hb1⟩
    go_wp2_with fail
    exact bodyPost_ret (v := .tuple #[.slice A1 n1 c1, .int .i64 2]) (by simp [results, Try.results11, go_sem]) rfl ⟨A1, n1, c1, rfl, hu, hb1⟩
  | false =>
    have hm := any_may hb
    have hlen := hr.len
    have hc := each_yes A n c 45 enters_tsum sumT ls w hr hb hn hV (fun v A m c w' hv hb' ht => by
      have hml : m ≤ 1048576 := by rw [← ht.1, List.length_map, hlen]; exact hn
      refine sum_fresh A m c _ w' ht (allMay_of hm v) (by omega) ?_
      intro t ht
      obtain ⟨l, hl, rfl⟩ := List.mem_map.1 ht
      have := may_vars_len (mayU_ofU (hm l hl) v)
      omega)
    have Hc := Lib.hid hc
    clear hc hr hb hm
    rw [if_neg (by simp)]
    go_enter Try.func11, Try.ntmps11
    go_wp2_with fail
    refine Hc.out.mono ?_; rintro e w1 ⟨A1, n1, c1, rfl, hu, hb1⟩
    go_wp2_with fail
    exact bodyPost_ret (v := .tuple #[.slice A1 n1 c1, .int .i64 0]) (by simp [results, Try.results11, go_sem]) rfl ⟨A1, n1, c1, rfl, hu, hb1⟩

set_option maxHeartbeats 1000000 in
theorem scale1_any (c v : Int) (b : Nat) (A : Option Addr) (m cp : Nat) (t : TermD) (w : World) (hb : Blk w b 46 #[.int .i64 v, .int .u8 c]) (ht : TermsV w w.heap.size A m cp [t]) (h1 : isB c v = true) (h2 : mayB t = true) :
    Calls Try.prog 58 #[.slice A m cp, .pointer (some ⟨b, 0, none⟩)] w (RetFE (scaleT c v t) 0 w) := by
  have hm : 1 = m := ht.1
  subst hm
  obtain ⟨bt, ot, q, hbt, hct⟩ := ht.2.2.2 (by omega)
  subst q
  obtain ⟨A2, n2, c2, e0, e1, e2, hr⟩ := hct 0 (by simp)
  rw [Nat.zero_mul, Nat.add_zero] at e0 e1 e2
  simp only [List.getElem_cons_zero] at e0 e1 e2 hr
  have hbx := below_box (w := w) (Obj.cells #[.bool false, .int .u8 0, .slice none 0 0] 37)
  have hz := blk_new w #[.bool false, .int .u8 0, .slice none 0 0] 37
  have hc := scale_fresh c v (.agg #[.bool t.never, .int .u8 t.c, .slice A2 n2 c2]) t ((w.alloc (Obj.cells #[.bool false, .int .u8 0, .slice none 0 0] 37)).drew) w.heap.size ⟨A2, n2, c2, rfl, (hr.below hbx).keep fun _ _ => rfl⟩ hbx.size h1 h2 (by have := may_vars_len h2; omega)
  have m0 : (w.alloc (Obj.cells #[.bool false, .int .u8 0, .slice none 0 0] 37)).cell? ⟨b, 0, none⟩ = some (.int .i64 v) := (hbx.cell (p := ⟨b, 0, none⟩) hb.lt).trans (hb.cell 0)
  have m1 : (w.alloc (Obj.cells #[.bool false, .int .u8 0, .slice none 0 0] 37)).cell? ⟨b, 1, none⟩ = some (.int .u8 c) := (hbx.cell (p := ⟨b, 1, none⟩) hb.lt).trans (hb.cell 1)
  have f0 : (w.alloc (Obj.cells #[.bool false, .int .u8 0, .slice none 0 0] 37)).cell? ⟨bt, ot, none⟩ = some (.bool t.never) := (hbx.cell (p := ⟨bt, ot, none⟩) hbt).trans e0
  have f1 : (w.alloc (Obj.cells #[.bool false, .int .u8 0, .slice none 0 0] 37)).cell? ⟨bt, ot + 1, none⟩ = some (.int .u8 t.c) := (hbx.cell (p := ⟨bt, ot + 1, none⟩) hbt).trans e1
  have f2 : (w.alloc (Obj.cells #[.bool false, .int .u8 0, .slice none 0 0] 37)).cell? ⟨bt, ot + 2, none⟩ = some (.slice A2 n2 c2) := (hbx.cell (p := ⟨bt, ot + 2, none⟩) hbt).trans e2
  obtain ⟨T, hT⟩ : ∃ T, scaleT c v t = T := ⟨_, rfl⟩
  rw [hT] at hc ⊢
  clear hT
  have hbl := hb.lt
  have Hc := Lib.hid hc
  have Hbx := Lib.hid hbx
  have Hz := Lib.hid hz
  clear e0 e1 e2 hct hr hb hc hbx hz ht
  go_enter Try.func58, Try.ntmps58
  go_wp2_with fail
  generalize hW : (w.alloc (Obj.cells #[.bool false, .int .u8 0, .slice none 0 0] 37)) = W at Hc Hbx Hz m0 m1 f0 f1 f2 ⊢
  clear hW
  have hst : ∀ w', Below w.heap.size W w' → (w'.cell? ⟨b, 0, none⟩ = some (.int .i64 v) ∧ w'.cell? ⟨b, 1, none⟩ = some (.int .u8 c)) ∧ (w'.cell? ⟨bt, ot, none⟩ = some (.bool t.never) ∧ w'.cell? ⟨bt, ot + 1, none⟩ = some (.int .u8 t.c) ∧ w'.cell? ⟨bt, ot + 2, none⟩ = some (.slice A2 n2 c2)) := fun w' h =>
    ⟨⟨(h.cell (p := ⟨b, 0, none⟩) hbl).trans m0, (h.cell (p := ⟨b, 1, none⟩) hbl).trans m1⟩, (h.cell (p := ⟨bt, ot, none⟩) hbt).trans f0, (h.cell (p := ⟨bt, ot + 1, none⟩) hbt).trans f1, (h.cell (p := ⟨bt, ot + 2, none⟩) hbt).trans f2⟩
  have Hst := Lib.hid hst
  clear hst
  go_region_held3 (fun w' => (w'.cell? ⟨b, 0, none⟩ = some (.int .i64 v) ∧ w'.cell? ⟨b, 1, none⟩ = some (.int .u8 c)) ∧ (w'.cell? ⟨bt, ot, none⟩ = some (.bool t.never) ∧ w'.cell? ⟨bt, ot + 1, none⟩ = some (.int .u8 t.c) ∧ w'.cell? ⟨bt, ot + 2, none⟩ = some (.slice A2 n2 c2)))
    (first | go_keep | exact Hst.out _ (Below.refl _ _) | exact Hst.out _ (Below.refl _ _).drew | exact Hst.out _ hb8 | exact Hst.out _ (((hb8.setCell (p := ⟨w.heap.size, 0, none⟩) (Nat.le_refl _) (.bool T.never)).setCell (p := ⟨w.heap.size, 1, none⟩) (Nat.le_refl _) (.int .u8 T.c)).setCell (p := ⟨w.heap.size, 2, none⟩) (Nat.le_refl _) (.slice A7 n7 c7)))
    ((go_at_call 59; refine Hc.out.mono ?_; rintro e w5 ⟨A7, n7, c7, rfl, hr7, hb7, hf7⟩; replace hb7 : Below W.heap.size W w5 := ((Below.refl _ _).drew).trans hb7; have hs5 := Hz.out.below hb7 Hz.out.lt; have hb8 : Below w.heap.size W w5 := hb7.mono Hbx.out.size; have hb5 := Hbx.out.trans (hb7.mono Hbx.out.size);
          have g0 : w5.cell? ⟨w.heap.size, 0, none⟩ = some (.bool false) := hs5.cell 0; have g1 : w5.cell? ⟨w.heap.size, 1, none⟩ = some (.int .u8 0) := hs5.cell 1; have g2 : w5.cell? ⟨w.heap.size, 2, none⟩ = some (.slice none 0 0) := hs5.cell 2;
          have p0 := hs5.frozen 0; have p1 := hs5.frozen 1; have p2 := hs5.frozen 2))
  have HF7 : Hid (0 < n7 → ∃ a, A7 = some a ∧ w.heap.size ≤ a.block) := Lib.hid fun h => by
    obtain ⟨a, e, ha⟩ := hf7 h
    exact ⟨a, e, Nat.le_trans Hbx.out.size ha⟩
  have Hr7 := Lib.hid hr7
  clear hr7 hf7
  try go_wp2_with fail
  have hs := hs5.set3 (.bool T.never) (.int .u8 T.c) (.slice A7 n7 c7)
  have hb3 := ((hb5.setCell (p := ⟨w.heap.size, 0, none⟩) (Nat.le_refl _) (.bool T.never)).setCell (p := ⟨w.heap.size, 1, none⟩) (Nat.le_refl _) (.int .u8 T.c)).setCell (p := ⟨w.heap.size, 2, none⟩) (Nat.le_refl _) (.slice A7 n7 c7)
  have hr8 := Hr7.out.put3 hs5 (.bool T.never) (.int .u8 T.c) (.slice A7 n7 c7)
  have hr9 := hr8.more (B' := (((w5.setCell ⟨w.heap.size, 0, none⟩ (.bool T.never)).setCell ⟨w.heap.size, 1, none⟩ (.int .u8 T.c)).setCell ⟨w.heap.size, 2, none⟩ (.slice A7 n7 c7)).heap.size) (by simp)
  generalize (((w5.setCell ⟨w.heap.size, 0, none⟩ (.bool T.never)).setCell ⟨w.heap.size, 1, none⟩ (.int .u8 T.c)).setCell ⟨w.heap.size, 2, none⟩ (.slice A7 n7 c7)) = W3 at hs hb3 hr9 ⊢
  have d0 : W3.cell? ⟨w.heap.size, 0, none⟩ = some (.bool T.never) := hs.cell 0
  have d1 : W3.cell? ⟨w.heap.size, 1, none⟩ = some (.int .u8 T.c) := hs.cell 1
  have d2 : W3.cell? ⟨w.heap.size, 2, none⟩ = some (.slice A7 n7 c7) := hs.cell 2
  exact bodyPost_ret (v := .tuple #[.agg #[.bool T.never, .int .u8 T.c, .slice A7 n7 c7], .int .i64 0]) (by simp [results, Try.results58, go_sem, d0, d1, d2]) rfl ⟨A7, n7, c7, rfl, hr9, hb3, HF7.out⟩

/-- uses, each scaled -/
def scaleU (c v : Int) (l : List UseD) : List UseD := eachU (fun ts => scaleT c v (ts.headD ⟨true, 0, []⟩)) [l]

set_option maxHeartbeats 1000000 in
theorem scaleU_is (c v : Int) (A : Option Addr) (n cp : Nat) (l : List UseD) (w : World) (hr : UsesV w w.heap.size A n cp l) (h1 : isB c v = false) :
    Calls Try.prog 20 #[.agg #[.int .i64 v, .int .u8 c], .slice A n cp] w (RetUE [] 2 w) := by
  have hbx := below_box (w := w) (Obj.cells #[.int .i64 v, .int .u8 c] 46)
  have hz := blk_new w #[.int .i64 v, .int .u8 c] 46
  have hr0 := (hr.below hbx).more hbx.size
  have hq := is_any c v (w.alloc (Obj.cells #[.int .i64 v, .int .u8 c] 46))
  have hlen := hr.len
  have Hq := Lib.hid hq
  have Hbx := Lib.hid hbx
  have Hz := Lib.hid hz
  have Hr := Lib.hid hr0
  have m0 : (w.alloc (Obj.cells #[.int .i64 v, .int .u8 c] 46)).cell? ⟨w.heap.size, 0, none⟩ = some (.int .i64 v) := hz.cell 0
  have m1 : (w.alloc (Obj.cells #[.int .i64 v, .int .u8 c] 46)).cell? ⟨w.heap.size, 1, none⟩ = some (.int .u8 c) := hz.cell 1
  clear hr hbx hz hq hr0
  go_enter Try.func20, Try.ntmps20
  go_wp2_with fail
  refine Hq.out.mono ?_; rintro e w1 ⟨rfl, hb1⟩
  have hbel := Hbx.out.trans (hb1.mono Hbx.out.size)
  rw [isE_no h1]
  go_wp2_with fail
  exact bodyPost_ret (v := .tuple #[.slice none 0 0, .int .i64 2]) (by simp [results, Try.results20, go_sem]) rfl ⟨none, 0, 0, rfl, UsesV.nil, hbel⟩
set_option maxHeartbeats 1000000 in
theorem scaleU_no (c v : Int) (A : Option Addr) (n cp : Nat) (l : List UseD) (w : World) (hr : UsesV w w.heap.size A n cp l) (h1 : isB c v = true) (h2 : mayU l = false) :
    Calls Try.prog 20 #[.agg #[.int .i64 v, .int .u8 c], .slice A n cp] w (RetUE [] 2 w) := by
  have hbx := below_box (w := w) (Obj.cells #[.int .i64 v, .int .u8 c] 46)
  have hz := blk_new w #[.int .i64 v, .int .u8 c] 46
  have hr0 := (hr.below hbx).more hbx.size
  have hq := is_any c v (w.alloc (Obj.cells #[.int .i64 v, .int .u8 c] 46))
  have hlen := hr.len
  have Hq := Lib.hid hq
  have Hbx := Lib.hid hbx
  have Hz := Lib.hid hz
  have Hr := Lib.hid hr0
  have m0 : (w.alloc (Obj.cells #[.int .i64 v, .int .u8 c] 46)).cell? ⟨w.heap.size, 0, none⟩ = some (.int .i64 v) := hz.cell 0
  have m1 : (w.alloc (Obj.cells #[.int .i64 v, .int .u8 c] 46)).cell? ⟨w.heap.size, 1, none⟩ = some (.int .u8 c) := hz.cell 1
  clear hr hbx hz hq hr0
  go_enter Try.func20, Try.ntmps20
  go_wp2_with fail
  refine Hq.out.mono ?_; rintro e w1 ⟨rfl, hb1⟩
  have hbel := Hbx.out.trans (hb1.mono Hbx.out.size)
  rw [isE_yes h1]
  have hz1 := Hz.out.below hb1 Hz.out.lt
  have hr1 := (Hr.out.below hb1).more hb1.size
  have hb2 := below_box (w := w1) (Obj.cells #[.slice A n cp] 25)
  have hz2 := hz1.below hb2 hz1.lt
  have hls : LsV (w1.alloc (Obj.cells #[.slice A n cp] 25)) (w1.alloc (Obj.cells #[.slice A n cp] 25)).heap.size (some ⟨w1.heap.size, 0, none⟩) 1 1 [l] := by
    refine ⟨rfl, Nat.le_refl _, by unfold maxLen; omega, fun _ => ⟨w1.heap.size, 0, rfl, by simp, fun i hi => ?_⟩⟩
    have hi0 : i = 0 := by simpa using hi
    subst hi0
    exact ⟨A, n, cp, (blk_new w1 #[.slice A n cp] 25).cell 0, (hr1.below hb2).more hb2.size⟩
  have hbel2 := hbel.trans (hb2.mono hbel.size)
  generalize hW2 : (w1.alloc (Obj.cells #[.slice A n cp] 25)) = w2 at hb2 hz2 hls hbel2
  have HW2 := Lib.hid hW2
  have hc := each_no (some ⟨w1.heap.size, 0, none⟩) 1 1 (.func (.func 58) #[] #[.pointer (some ⟨w.heap.size, 0, none⟩)]) [l] w2 hls (by simp [h2])
  have Hc := Lib.hid hc
  have Hbel2 := Lib.hid hbel2
  clear hc hls hbel2 hz2 hb2 hW2 hr1 hz1 hbel h1 h2 hb1
  go_wp2_with fail
  rw [HW2.out]
  refine Hc.out.mono ?_; rintro e w3 ⟨A1, n1, c1, rfl, hu, hb3⟩
  have hbel3 := Hbel2.out.trans (hb3.mono Hbel2.out.size)
  go_wp2_with fail
  exact bodyPost_ret (v := .tuple #[.slice A1 n1 c1, .int .i64 2]) (by simp [results, Try.results20, go_sem]) rfl ⟨A1, n1, c1, rfl, hu, hbel3⟩
theorem mayU_rises {l : List UseD} (h : mayU l = true) : Rises (l.map (·.v)) ∧ l.length ≤ 1048576 := by
  have hri := mayU_rise h
  have h1 : Rises (l.map (·.v)) := by
    rw [Rises, List.pairwise_iff_getElem]
    intro i j hi hj hij
    rw [List.getElem_map, List.getElem_map]
    exact hri.up i j hij (by simpa using hj)
  refine ⟨h1, ?_⟩
  have := rises_len h1 (fun v hv => by obtain ⟨x, hx, rfl⟩ := List.mem_map.1 hv; exact hri.rng x hx)
  rwa [List.length_map] at this
set_option maxHeartbeats 1000000 in
theorem scaleU_yes (c v : Int) (A : Option Addr) (n cp : Nat) (l : List UseD) (w : World) (hr : UsesV w w.heap.size A n cp l) (h1 : isB c v = true) (h2 : mayU l = true) :
    Calls Try.prog 20 #[.agg #[.int .i64 v, .int .u8 c], .slice A n cp] w (RetUE (scaleU c v l) 0 w) := by
  have hbx := below_box (w := w) (Obj.cells #[.int .i64 v, .int .u8 c] 46)
  have hz := blk_new w #[.int .i64 v, .int .u8 c] 46
  have hr0 := (hr.below hbx).more hbx.size
  have hq := is_any c v (w.alloc (Obj.cells #[.int .i64 v, .int .u8 c] 46))
  have hlen := hr.len
  have Hq := Lib.hid hq
  have Hbx := Lib.hid hbx
  have Hz := Lib.hid hz
  have Hr := Lib.hid hr0
  have m0 : (w.alloc (Obj.cells #[.int .i64 v, .int .u8 c] 46)).cell? ⟨w.heap.size, 0, none⟩ = some (.int .i64 v) := hz.cell 0
  have m1 : (w.alloc (Obj.cells #[.int .i64 v, .int .u8 c] 46)).cell? ⟨w.heap.size, 1, none⟩ = some (.int .u8 c) := hz.cell 1
  clear hr hbx hz hq hr0
  go_enter Try.func20, Try.ntmps20
  go_wp2_with fail
  refine Hq.out.mono ?_; rintro e w1 ⟨rfl, hb1⟩
  have hbel := Hbx.out.trans (hb1.mono Hbx.out.size)
  rw [isE_yes h1]
  have hz1 := Hz.out.below hb1 Hz.out.lt
  have hr1 := (Hr.out.below hb1).more hb1.size
  have hb2 := below_box (w := w1) (Obj.cells #[.slice A n cp] 25)
  have hz2 := hz1.below hb2 hz1.lt
  have hls : LsV (w1.alloc (Obj.cells #[.slice A n cp] 25)) (w1.alloc (Obj.cells #[.slice A n cp] 25)).heap.size (some ⟨w1.heap.size, 0, none⟩) 1 1 [l] := by
    refine ⟨rfl, Nat.le_refl _, by unfold maxLen; omega, fun _ => ⟨w1.heap.size, 0, rfl, by simp, fun i hi => ?_⟩⟩
    have hi0 : i = 0 := by simpa using hi
    subst hi0
    exact ⟨A, n, cp, (blk_new w1 #[.slice A n cp] 25).cell 0, (hr1.below hb2).more hb2.size⟩
  have hbel2 := hbel.trans (hb2.mono hbel.size)
  generalize hW2 : (w1.alloc (Obj.cells #[.slice A n cp] 25)) = w2 at hb2 hz2 hls hbel2
  have HW2 := Lib.hid hW2
  have hc := each_yes1 (some ⟨w1.heap.size, 0, none⟩) 1 1 58 (.pointer (some ⟨w.heap.size, 0, none⟩)) enters_scale1 (fun ts => scaleT c v (ts.headD ⟨true, 0, []⟩)) [l] w2 hls (by simp [h2]) (by omega) (by have := (mayU_rises h2).2; simp only [varsOf, List.flatMap_cons, List.flatMap_nil, List.append_nil, List.length_map]; omega) (fun u A m cp w' hv hb' ht => by
    have hz' := hz2.below hb' hz2.lt
    exact scale1_any c v w.heap.size A m cp (ofU l u) w' hz' ht h1 (mayU_ofU h2 u))
  have Hc := Lib.hid hc
  have Hbel2 := Lib.hid hbel2
  clear hc hls hbel2 hz2 hb2 hW2 hr1 hz1 hbel h1 h2 hb1
  go_wp2_with fail
  rw [HW2.out]
  refine Hc.out.mono ?_; rintro e w3 ⟨A1, n1, c1, rfl, hu, hb3⟩
  have hbel3 := Hbel2.out.trans (hb3.mono Hbel2.out.size)
  go_wp2_with fail
  exact bodyPost_ret (v := .tuple #[.slice A1 n1 c1, .int .i64 0]) (by simp [results, Try.results20, go_sem]) rfl ⟨A1, n1, c1, rfl, hu, hbel3⟩

end Go.Proofs.Ytimlbpjdgnapoaa
