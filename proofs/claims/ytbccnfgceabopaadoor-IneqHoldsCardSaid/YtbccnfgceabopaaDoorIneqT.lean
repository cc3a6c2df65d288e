/- The contracts of ineq.Text, usufructref03.Text. -/
import Derived.Test.YtbccnfgceabopaaDoorIneqDef
import Derived.Test.YtbccnfgceabopaaDoorRefTx
namespace Go.Proofs.YtbccnfgceabopaaDoor
set_option linter.unusedVariables false
set_option linter.unusedSimpArgs false
open Go.RowKit

def leftS (lv lc : Int) : ByteArray := if lc = 0 then mname lv else mtext lc
def rightL (c r : Int) : List ByteArray := (if 1 < c ∨ r < 0 then [mtext c] else []) ++ (if 0 ≤ r then [mname r] else [])
def sepQ : ByteArray := ⟨#[32, 60, 61, 32]⟩
def textQ (lv lc c r : Int) : ByteArray := (leftS lv lc ++ sepQ) ++ joinB (rightL c r)

theorem name1_any (v : Int) (h0 : -9223372036854775808 ≤ v) (h1 : v ≤ 9223372036854775807) (w : World) (ht : Tab w) :
    Calls Tryd.prog 43 #[.int .i64 v] w fun e w' => e = .returned (.string (mname v)) ∧ Below w.heap.size w w' := by
  have hnl : (numT v).size ≤ 21 := numT_size _ h0 h1
  go_enter Tryd.func43, Tryd.ntmps43
  go_wp2_with fail
  refine (itoa_any v h0 h1 w ht).mono ?_; rintro e w1 ⟨rfl, hb1⟩
  go_wp2_with fail
  go_ret
  exact ⟨rfl, hb1⟩

theorem join_own {wr : World} {base : Nat} {A : Option Addr} {m c1 : Nat} {l : List ByteArray} (ho : wr.ownsRow base 9 1 (.slice A m c1) m (l.map Value.string)) (hne : 0 < m) (hpa : ∀ x ∈ l, x.data.toList.length ≤ 22) (hm : m ≤ 100) :
    Calls Tryd.prog 46 #[.slice A m c1, .string ⟨#[124]⟩] wr fun e w' => e = .returned (.string (joinB l)) ∧ Below wr.heap.size wr w' := by
  have hlm : l.length = m := by simpa using ho.1
  obtain ⟨g, cap, hv, _, hlt⟩ := ho.form hne
  injection hv with hv1 _ hv2
  subst hv1; subst hv2
  have hcap : m ≤ c1 := own_cap ho
  have hjl := join_len [124] (by simp) (l.map (·.data.toList)) (by
    intro x hx
    obtain ⟨y, hy, rfl⟩ := List.mem_map.1 hx
    exact hpa y hy)
  rw [List.length_map, hlm] at hjl
  have hcl : ∀ (j : Nat) x, l[j]? = some x → wr.cell? ⟨g, 0 + j, none⟩ = some (.string x) := by
    intro j x hx
    have := ho.cells (g := g) rfl j (.string x) (by rw [List.getElem?_map, hx]; rfl)
    rw [show (Addr.add ⟨g, 0, none⟩ j) = ⟨g, 0 + j, none⟩ from by unfold Addr.add; split <;> simp_all] at this
    exact this
  have h := Tryd.strings_Join g 0 c1 l ⟨#[124]⟩ wr hcl hlt (by omega) (by omega) (by
    show (Lib.join _ [124]).length ≤ _
    omega)
  rw [hlm] at h
  exact h

theorem joinB_size {l : List ByteArray} (hpa : ∀ x ∈ l, x.data.toList.length ≤ 22) : (joinB l).size ≤ 44 * l.length := by
  have hjl := join_len [124] (by simp) (l.map (·.data.toList)) (by
    intro x hx
    obtain ⟨y, hy, rfl⟩ := List.mem_map.1 hx
    exact hpa y hy)
  rw [List.length_map] at hjl
  exact hjl


set_option maxHeartbeats 1000000 in
set_option maxRecDepth 100000 in
theorem ineqText_any (lv lc c r : Int) (w : World) (ht : Tab w) (hlv : -9223372036854775808 ≤ lv ∧ lv ≤ 9223372036854775807) (hr : -9223372036854775808 ≤ r ∧ r ≤ 9223372036854775807) :
    Calls Tryd.prog 15 #[.agg #[.int .i64 lv, .int .u8 lc, .int .u8 c, .int .i64 r]] w fun e w' => e = .returned (.string (textQ lv lc c r)) ∧ Below w.heap.size w w' := by
  obtain ⟨i0, hi0, hz0, hz1, hz2⟩ := info_parts (show (Tryd.prog.info? 9).map (fun i => (i.zero, i.size, i.bytes)) = some (some (.string ⟨#[]⟩), 1, 16) from by kernel_rfl)
  have hbel0 : Below w.heap.size w (w.alloc (Obj.cells #[.int .i64 lv, .int .u8 lc, .int .u8 c, .int .i64 r] 36)) := below_box _
  have hself0 := blk_new w #[.int .i64 lv, .int .u8 lc, .int .u8 c, .int .i64 r] 36
  have Ht := Lib.hid ht
  have Hr := Lib.hid hr
  clear ht hr
  go_enter Tryd.func15, Tryd.ntmps15
  go_wp2_with fail
  generalize w.alloc (Obj.cells #[.int .i64 lv, .int .u8 lc, .int .u8 c, .int .i64 r] 36) = w0 at hbel0 hself0 ⊢
  refine (name1_any lv hlv.1 hlv.2 w0 (Ht.out.below hbel0)).mono ?_; rintro e w1 ⟨rfl, hb1⟩
  have hbel1 := hbel0.trans (hb1.mono hbel0.size)
  have hself1 := hself0.below hb1 hself0.lt
  have x1 : w1.cell? ⟨w.heap.size, 1, none⟩ = some (.int .u8 lc) := hself1.cell 1
  have hnl : (mname lv).size ≤ 22 := mname_len lv hlv.1 hlv.2
  clear hb1 hbel0 hself0
  by_cases h0 : lc = 0
  · have hL : leftS lv lc = mname lv := if_pos h0
    have hz : (lc == 0) = true := by simp [h0]
    by_cases h1 : 1 < c
    · by_cases h2 : 0 ≤ r
      · have HT : Hid (textQ lv lc c r = (mname lv ++ sepQ) ++ joinB [mtext c, mname r]) := by show _ = _; unfold textQ; rw [hL, show rightL c r = [mtext c, mname r] by simp [rightL, h1, h2]]
        have y2 : w1.cell? ⟨w.heap.size, 2, none⟩ = some (.int .u8 c) := hself1.cell 2
        have y3 : w1.cell? ⟨w.heap.size, 3, none⟩ = some (.int .i64 r) := hself1.cell 3
        go_wp2_with fail
        refine (text_any c w1).mono ?_; rintro e w4 ⟨rfl, hb4⟩
        have hbel4 := hbel1.trans (hb4.mono hbel1.size)
        have hself4 := hself1.below hb4 hself1.lt
        have y3' : w4.cell? ⟨w.heap.size, 3, none⟩ = some (.int .i64 r) := hself4.cell 3
        have hml : (mtext c).size ≤ 22 := mtext_len c
        clear y2 y3 hb4
        go_wp2_with (at_builtin; refine wpList_append_one w w4 rfl (.tmp 27) (.tmp 31) 26 rfl w.heap.size 9 i0 _ 1 16 Tryd.underlying26 hi0 hz0 hz1 hz2 rfl (by omega) (.slice none 0 0) 0 [] rfl [.string (mtext c)] rfl (by intro u hu; simp at hu; subst hu; rfl) rfl (World.ownsRow_nil _ _ _ _) (by unfold maxLen; omega) (by omega) hbel4 hbel4.size ?_; intro A5 c5 w5 how5 hbelw5 hgw5 hzw5; have hb5 : Below w4.heap.size w4 w5 := ⟨hgw5.os, hgw5.tape, hgw5.output, hgw5.size, fun k hk => hgw5.block k hk (by simp [Value.ownBlock])⟩; have hself5 := hself4.below hb5 hself4.lt; have z3 : w5.cell? ⟨w.heap.size, 3, none⟩ = some (.int .i64 r) := hself5.cell 3; clear hgw5)
        refine (name1_any r Hr.out.1 Hr.out.2 w5 (Ht.out.below hbelw5)).mono ?_; rintro e w6 ⟨rfl, hb6⟩
        have ho6 := ownsRow_beyond (show w5.ownsRow w.heap.size 9 1 (.slice A5 1 c5) 1 [.string (mtext c)] from how5) hb6
        have hbel6 := hbelw5.trans (hb6.mono hbelw5.size)
        clear hb6
        go_wp2_with (at_builtin; refine wpList_append_one w w6 rfl (.tmp 36) (.tmp 41) 26 rfl w.heap.size 9 i0 _ 1 16 Tryd.underlying26 hi0 hz0 hz1 hz2 rfl (by omega) (.slice A5 1 c5) 1 _ rfl [.string (mname r)] rfl (by intro u hu; simp at hu; subst hu; rfl) rfl ho6 (by unfold maxLen; omega) (by omega) hbel6 hbel6.size ?_; intro A7 c7 w7 how7 hbelw7 hgw7 hzw7; clear hgw7)
        have hpa : ∀ x ∈ ([mtext c, mname r] : List ByteArray), x.data.toList.length ≤ 22 := by intro y hy; simp at hy; first | (rcases hy with rfl | rfl <;> first | exact mtext_len _ | exact mname_len _ Hr.out.1 Hr.out.2) | (subst hy; first | exact mtext_len _ | exact mname_len _ Hr.out.1 Hr.out.2)
        have hjs := joinB_size hpa
        simp only [List.length_cons, List.length_nil] at hjs
        refine (join_own (l := [mtext c, mname r]) how7 (by omega) hpa (by omega)).mono ?_; rintro e w9 ⟨rfl, hb9⟩
        clear hpa
        generalize joinB [mtext c, mname r] = JJ at hjs HT ⊢
        go_wp2_with fail
        go_ret
        exact ⟨by rw [HT.out]; rfl, stepB hbelw7 hb9⟩
      · have HT : Hid (textQ lv lc c r = (mname lv ++ sepQ) ++ joinB [mtext c]) := by show _ = _; unfold textQ; rw [hL, show rightL c r = [mtext c] by simp [rightL, h1, h2]]
        have y2 : w1.cell? ⟨w.heap.size, 2, none⟩ = some (.int .u8 c) := hself1.cell 2
        have y3 : w1.cell? ⟨w.heap.size, 3, none⟩ = some (.int .i64 r) := hself1.cell 3
        go_wp2_with fail
        refine (text_any c w1).mono ?_; rintro e w4 ⟨rfl, hb4⟩
        have hbel4 := hbel1.trans (hb4.mono hbel1.size)
        have hself4 := hself1.below hb4 hself1.lt
        have y3' : w4.cell? ⟨w.heap.size, 3, none⟩ = some (.int .i64 r) := hself4.cell 3
        have hml : (mtext c).size ≤ 22 := mtext_len c
        clear y2 y3 hb4
        go_wp2_with (at_builtin; refine wpList_append_one w w4 rfl (.tmp 27) (.tmp 31) 26 rfl w.heap.size 9 i0 _ 1 16 Tryd.underlying26 hi0 hz0 hz1 hz2 rfl (by omega) (.slice none 0 0) 0 [] rfl [.string (mtext c)] rfl (by intro u hu; simp at hu; subst hu; rfl) rfl (World.ownsRow_nil _ _ _ _) (by unfold maxLen; omega) (by omega) hbel4 hbel4.size ?_; intro A5 c5 w5 how5 hbelw5 hgw5 hzw5; have hb5 : Below w4.heap.size w4 w5 := ⟨hgw5.os, hgw5.tape, hgw5.output, hgw5.size, fun k hk => hgw5.block k hk (by simp [Value.ownBlock])⟩; have hself5 := hself4.below hb5 hself4.lt; have z3 : w5.cell? ⟨w.heap.size, 3, none⟩ = some (.int .i64 r) := hself5.cell 3; clear hgw5)
        have hpa : ∀ x ∈ ([mtext c] : List ByteArray), x.data.toList.length ≤ 22 := by intro y hy; simp at hy; first | (rcases hy with rfl | rfl <;> first | exact mtext_len _ | exact mname_len _ Hr.out.1 Hr.out.2) | (subst hy; first | exact mtext_len _ | exact mname_len _ Hr.out.1 Hr.out.2)
        have hjs := joinB_size hpa
        simp only [List.length_cons, List.length_nil] at hjs
        refine (join_own (l := [mtext c]) how5 (by omega) hpa (by omega)).mono ?_; rintro e w9 ⟨rfl, hb9⟩
        clear hpa
        generalize joinB [mtext c] = JJ at hjs HT ⊢
        go_wp2_with fail
        go_ret
        exact ⟨by rw [HT.out]; rfl, stepB hbelw5 hb9⟩
    · by_cases h2 : 0 ≤ r
      · have HT : Hid (textQ lv lc c r = (mname lv ++ sepQ) ++ joinB [mname r]) := by show _ = _; unfold textQ; rw [hL, show rightL c r = [mname r] by simp [rightL, h1, h2, show ¬ r < 0 by omega]]
        have y2 : w1.cell? ⟨w.heap.size, 2, none⟩ = some (.int .u8 c) := hself1.cell 2
        have y3 : w1.cell? ⟨w.heap.size, 3, none⟩ = some (.int .i64 r) := hself1.cell 3
        go_wp2_with fail
        refine (name1_any r Hr.out.1 Hr.out.2 w1 (Ht.out.below hbel1)).mono ?_; rintro e w6 ⟨rfl, hb6⟩
        have hbel6 := hbel1.trans (hb6.mono hbel1.size)
        clear hb6
        go_wp2_with (at_builtin; refine wpList_append_one w w6 rfl (.tmp 36) (.tmp 41) 26 rfl w.heap.size 9 i0 _ 1 16 Tryd.underlying26 hi0 hz0 hz1 hz2 rfl (by omega) (.slice none 0 0) 0 [] rfl [.string (mname r)] rfl (by intro u hu; simp at hu; subst hu; rfl) rfl (World.ownsRow_nil _ _ _ _) (by unfold maxLen; omega) (by omega) hbel6 hbel6.size ?_; intro A7 c7 w7 how7 hbelw7 hgw7 hzw7; clear hgw7)
        have hpa : ∀ x ∈ ([mname r] : List ByteArray), x.data.toList.length ≤ 22 := by intro y hy; simp at hy; first | (rcases hy with rfl | rfl <;> first | exact mtext_len _ | exact mname_len _ Hr.out.1 Hr.out.2) | (subst hy; first | exact mtext_len _ | exact mname_len _ Hr.out.1 Hr.out.2)
        have hjs := joinB_size hpa
        simp only [List.length_cons, List.length_nil] at hjs
        refine (join_own (l := [mname r]) how7 (by omega) hpa (by omega)).mono ?_; rintro e w9 ⟨rfl, hb9⟩
        clear hpa
        generalize joinB [mname r] = JJ at hjs HT ⊢
        go_wp2_with fail
        go_ret
        exact ⟨by rw [HT.out]; rfl, stepB hbelw7 hb9⟩
      · have HT : Hid (textQ lv lc c r = (mname lv ++ sepQ) ++ joinB [mtext c]) := by show _ = _; unfold textQ; rw [hL, show rightL c r = [mtext c] by simp [rightL, h1, show r < 0 by omega, h2]]
        have y2 : w1.cell? ⟨w.heap.size, 2, none⟩ = some (.int .u8 c) := hself1.cell 2
        have y3 : w1.cell? ⟨w.heap.size, 3, none⟩ = some (.int .i64 r) := hself1.cell 3
        go_wp2_with fail
        refine (text_any c w1).mono ?_; rintro e w4 ⟨rfl, hb4⟩
        have hbel4 := hbel1.trans (hb4.mono hbel1.size)
        have hself4 := hself1.below hb4 hself1.lt
        have y3' : w4.cell? ⟨w.heap.size, 3, none⟩ = some (.int .i64 r) := hself4.cell 3
        have hml : (mtext c).size ≤ 22 := mtext_len c
        clear y2 y3 hb4
        go_wp2_with (at_builtin; refine wpList_append_one w w4 rfl (.tmp 27) (.tmp 31) 26 rfl w.heap.size 9 i0 _ 1 16 Tryd.underlying26 hi0 hz0 hz1 hz2 rfl (by omega) (.slice none 0 0) 0 [] rfl [.string (mtext c)] rfl (by intro u hu; simp at hu; subst hu; rfl) rfl (World.ownsRow_nil _ _ _ _) (by unfold maxLen; omega) (by omega) hbel4 hbel4.size ?_; intro A5 c5 w5 how5 hbelw5 hgw5 hzw5; have hb5 : Below w4.heap.size w4 w5 := ⟨hgw5.os, hgw5.tape, hgw5.output, hgw5.size, fun k hk => hgw5.block k hk (by simp [Value.ownBlock])⟩; have hself5 := hself4.below hb5 hself4.lt; have z3 : w5.cell? ⟨w.heap.size, 3, none⟩ = some (.int .i64 r) := hself5.cell 3; clear hgw5)
        have hpa : ∀ x ∈ ([mtext c] : List ByteArray), x.data.toList.length ≤ 22 := by intro y hy; simp at hy; first | (rcases hy with rfl | rfl <;> first | exact mtext_len _ | exact mname_len _ Hr.out.1 Hr.out.2) | (subst hy; first | exact mtext_len _ | exact mname_len _ Hr.out.1 Hr.out.2)
        have hjs := joinB_size hpa
        simp only [List.length_cons, List.length_nil] at hjs
        refine (join_own (l := [mtext c]) how5 (by omega) hpa (by omega)).mono ?_; rintro e w9 ⟨rfl, hb9⟩
        clear hpa
        generalize joinB [mtext c] = JJ at hjs HT ⊢
        go_wp2_with fail
        go_ret
        exact ⟨by rw [HT.out]; rfl, stepB hbelw5 hb9⟩
  · have hL : leftS lv lc = mtext lc := if_neg h0
    have hz : (lc == 0) = false := by simp [h0]
    go_wp2_with fail
    refine (text_any lc w1).mono ?_; rintro e w2 ⟨rfl, hb2⟩
    have hbel2 := hbel1.trans (hb2.mono hbel1.size)
    have hself2 := hself1.below hb2 hself1.lt
    have hnl2 : (mtext lc).size ≤ 22 := mtext_len lc
    clear hb2 x1 hself1 hbel1
    by_cases h1 : 1 < c
    · by_cases h2 : 0 ≤ r
      · have HT : Hid (textQ lv lc c r = (mtext lc ++ sepQ) ++ joinB [mtext c, mname r]) := by show _ = _; unfold textQ; rw [hL, show rightL c r = [mtext c, mname r] by simp [rightL, h1, h2]]
        have y2 : w2.cell? ⟨w.heap.size, 2, none⟩ = some (.int .u8 c) := hself2.cell 2
        have y3 : w2.cell? ⟨w.heap.size, 3, none⟩ = some (.int .i64 r) := hself2.cell 3
        go_wp2_with fail
        refine (text_any c w2).mono ?_; rintro e w4 ⟨rfl, hb4⟩
        have hbel4 := hbel2.trans (hb4.mono hbel2.size)
        have hself4 := hself2.below hb4 hself2.lt
        have y3' : w4.cell? ⟨w.heap.size, 3, none⟩ = some (.int .i64 r) := hself4.cell 3
        have hml : (mtext c).size ≤ 22 := mtext_len c
        clear y2 y3 hb4
        go_wp2_with (at_builtin; refine wpList_append_one w w4 rfl (.tmp 27) (.tmp 31) 26 rfl w.heap.size 9 i0 _ 1 16 Tryd.underlying26 hi0 hz0 hz1 hz2 rfl (by omega) (.slice none 0 0) 0 [] rfl [.string (mtext c)] rfl (by intro u hu; simp at hu; subst hu; rfl) rfl (World.ownsRow_nil _ _ _ _) (by unfold maxLen; omega) (by omega) hbel4 hbel4.size ?_; intro A5 c5 w5 how5 hbelw5 hgw5 hzw5; have hb5 : Below w4.heap.size w4 w5 := ⟨hgw5.os, hgw5.tape, hgw5.output, hgw5.size, fun k hk => hgw5.block k hk (by simp [Value.ownBlock])⟩; have hself5 := hself4.below hb5 hself4.lt; have z3 : w5.cell? ⟨w.heap.size, 3, none⟩ = some (.int .i64 r) := hself5.cell 3; clear hgw5)
        refine (name1_any r Hr.out.1 Hr.out.2 w5 (Ht.out.below hbelw5)).mono ?_; rintro e w6 ⟨rfl, hb6⟩
        have ho6 := ownsRow_beyond (show w5.ownsRow w.heap.size 9 1 (.slice A5 1 c5) 1 [.string (mtext c)] from how5) hb6
        have hbel6 := hbelw5.trans (hb6.mono hbelw5.size)
        clear hb6
        go_wp2_with (at_builtin; refine wpList_append_one w w6 rfl (.tmp 36) (.tmp 41) 26 rfl w.heap.size 9 i0 _ 1 16 Tryd.underlying26 hi0 hz0 hz1 hz2 rfl (by omega) (.slice A5 1 c5) 1 _ rfl [.string (mname r)] rfl (by intro u hu; simp at hu; subst hu; rfl) rfl ho6 (by unfold maxLen; omega) (by omega) hbel6 hbel6.size ?_; intro A7 c7 w7 how7 hbelw7 hgw7 hzw7; clear hgw7)
        have hpa : ∀ x ∈ ([mtext c, mname r] : List ByteArray), x.data.toList.length ≤ 22 := by intro y hy; simp at hy; first | (rcases hy with rfl | rfl <;> first | exact mtext_len _ | exact mname_len _ Hr.out.1 Hr.out.2) | (subst hy; first | exact mtext_len _ | exact mname_len _ Hr.out.1 Hr.out.2)
        have hjs := joinB_size hpa
        simp only [List.length_cons, List.length_nil] at hjs
        refine (join_own (l := [mtext c, mname r]) how7 (by omega) hpa (by omega)).mono ?_; rintro e w9 ⟨rfl, hb9⟩
        clear hpa
        generalize joinB [mtext c, mname r] = JJ at hjs HT ⊢
        go_wp2_with fail
        go_ret
        exact ⟨by rw [HT.out]; rfl, stepB hbelw7 hb9⟩
      · have HT : Hid (textQ lv lc c r = (mtext lc ++ sepQ) ++ joinB [mtext c]) := by show _ = _; unfold textQ; rw [hL, show rightL c r = [mtext c] by simp [rightL, h1, h2]]
        have y2 : w2.cell? ⟨w.heap.size, 2, none⟩ = some (.int .u8 c) := hself2.cell 2
        have y3 : w2.cell? ⟨w.heap.size, 3, none⟩ = some (.int .i64 r) := hself2.cell 3
        go_wp2_with fail
        refine (text_any c w2).mono ?_; rintro e w4 ⟨rfl, hb4⟩
        have hbel4 := hbel2.trans (hb4.mono hbel2.size)
        have hself4 := hself2.below hb4 hself2.lt
        have y3' : w4.cell? ⟨w.heap.size, 3, none⟩ = some (.int .i64 r) := hself4.cell 3
        have hml : (mtext c).size ≤ 22 := mtext_len c
        clear y2 y3 hb4
        go_wp2_with (at_builtin; refine wpList_append_one w w4 rfl (.tmp 27) (.tmp 31) 26 rfl w.heap.size 9 i0 _ 1 16 Tryd.underlying26 hi0 hz0 hz1 hz2 rfl (by omega) (.slice none 0 0) 0 [] rfl [.string (mtext c)] rfl (by intro u hu; simp at hu; subst hu; rfl) rfl (World.ownsRow_nil _ _ _ _) (by unfold maxLen; omega) (by omega) hbel4 hbel4.size ?_; intro A5 c5 w5 how5 hbelw5 hgw5 hzw5; have hb5 : Below w4.heap.size w4 w5 := ⟨hgw5.os, hgw5.tape, hgw5.output, hgw5.size, fun k hk => hgw5.block k hk (by simp [Value.ownBlock])⟩; have hself5 := hself4.below hb5 hself4.lt; have z3 : w5.cell? ⟨w.heap.size, 3, none⟩ = some (.int .i64 r) := hself5.cell 3; clear hgw5)
        have hpa : ∀ x ∈ ([mtext c] : List ByteArray), x.data.toList.length ≤ 22 := by intro y hy; simp at hy; first | (rcases hy with rfl | rfl <;> first | exact mtext_len _ | exact mname_len _ Hr.out.1 Hr.out.2) | (subst hy; first | exact mtext_len _ | exact mname_len _ Hr.out.1 Hr.out.2)
        have hjs := joinB_size hpa
        simp only [List.length_cons, List.length_nil] at hjs
        refine (join_own (l := [mtext c]) how5 (by omega) hpa (by omega)).mono ?_; rintro e w9 ⟨rfl, hb9⟩
        clear hpa
        generalize joinB [mtext c] = JJ at hjs HT ⊢
        go_wp2_with fail
        go_ret
        exact ⟨by rw [HT.out]; rfl, stepB hbelw5 hb9⟩
    · by_cases h2 : 0 ≤ r
      · have HT : Hid (textQ lv lc c r = (mtext lc ++ sepQ) ++ joinB [mname r]) := by show _ = _; unfold textQ; rw [hL, show rightL c r = [mname r] by simp [rightL, h1, h2, show ¬ r < 0 by omega]]
        have y2 : w2.cell? ⟨w.heap.size, 2, none⟩ = some (.int .u8 c) := hself2.cell 2
        have y3 : w2.cell? ⟨w.heap.size, 3, none⟩ = some (.int .i64 r) := hself2.cell 3
        go_wp2_with fail
        refine (name1_any r Hr.out.1 Hr.out.2 w2 (Ht.out.below hbel2)).mono ?_; rintro e w6 ⟨rfl, hb6⟩
        have hbel6 := hbel2.trans (hb6.mono hbel2.size)
        clear hb6
        go_wp2_with (at_builtin; refine wpList_append_one w w6 rfl (.tmp 36) (.tmp 41) 26 rfl w.heap.size 9 i0 _ 1 16 Tryd.underlying26 hi0 hz0 hz1 hz2 rfl (by omega) (.slice none 0 0) 0 [] rfl [.string (mname r)] rfl (by intro u hu; simp at hu; subst hu; rfl) rfl (World.ownsRow_nil _ _ _ _) (by unfold maxLen; omega) (by omega) hbel6 hbel6.size ?_; intro A7 c7 w7 how7 hbelw7 hgw7 hzw7; clear hgw7)
        have hpa : ∀ x ∈ ([mname r] : List ByteArray), x.data.toList.length ≤ 22 := by intro y hy; simp at hy; first | (rcases hy with rfl | rfl <;> first | exact mtext_len _ | exact mname_len _ Hr.out.1 Hr.out.2) | (subst hy; first | exact mtext_len _ | exact mname_len _ Hr.out.1 Hr.out.2)
        have hjs := joinB_size hpa
        simp only [List.length_cons, List.length_nil] at hjs
        refine (join_own (l := [mname r]) how7 (by omega) hpa (by omega)).mono ?_; rintro e w9 ⟨rfl, hb9⟩
        clear hpa
        generalize joinB [mname r] = JJ at hjs HT ⊢
        go_wp2_with fail
        go_ret
        exact ⟨by rw [HT.out]; rfl, stepB hbelw7 hb9⟩
      · have HT : Hid (textQ lv lc c r = (mtext lc ++ sepQ) ++ joinB [mtext c]) := by show _ = _; unfold textQ; rw [hL, show rightL c r = [mtext c] by simp [rightL, h1, show r < 0 by omega, h2]]
        have y2 : w2.cell? ⟨w.heap.size, 2, none⟩ = some (.int .u8 c) := hself2.cell 2
        have y3 : w2.cell? ⟨w.heap.size, 3, none⟩ = some (.int .i64 r) := hself2.cell 3
        go_wp2_with fail
        refine (text_any c w2).mono ?_; rintro e w4 ⟨rfl, hb4⟩
        have hbel4 := hbel2.trans (hb4.mono hbel2.size)
        have hself4 := hself2.below hb4 hself2.lt
        have y3' : w4.cell? ⟨w.heap.size, 3, none⟩ = some (.int .i64 r) := hself4.cell 3
        have hml : (mtext c).size ≤ 22 := mtext_len c
        clear y2 y3 hb4
        go_wp2_with (at_builtin; refine wpList_append_one w w4 rfl (.tmp 27) (.tmp 31) 26 rfl w.heap.size 9 i0 _ 1 16 Tryd.underlying26 hi0 hz0 hz1 hz2 rfl (by omega) (.slice none 0 0) 0 [] rfl [.string (mtext c)] rfl (by intro u hu; simp at hu; subst hu; rfl) rfl (World.ownsRow_nil _ _ _ _) (by unfold maxLen; omega) (by omega) hbel4 hbel4.size ?_; intro A5 c5 w5 how5 hbelw5 hgw5 hzw5; have hb5 : Below w4.heap.size w4 w5 := ⟨hgw5.os, hgw5.tape, hgw5.output, hgw5.size, fun k hk => hgw5.block k hk (by simp [Value.ownBlock])⟩; have hself5 := hself4.below hb5 hself4.lt; have z3 : w5.cell? ⟨w.heap.size, 3, none⟩ = some (.int .i64 r) := hself5.cell 3; clear hgw5)
        have hpa : ∀ x ∈ ([mtext c] : List ByteArray), x.data.toList.length ≤ 22 := by intro y hy; simp at hy; first | (rcases hy with rfl | rfl <;> first | exact mtext_len _ | exact mname_len _ Hr.out.1 Hr.out.2) | (subst hy; first | exact mtext_len _ | exact mname_len _ Hr.out.1 Hr.out.2)
        have hjs := joinB_size hpa
        simp only [List.length_cons, List.length_nil] at hjs
        refine (join_own (l := [mtext c]) how5 (by omega) hpa (by omega)).mono ?_; rintro e w9 ⟨rfl, hb9⟩
        clear hpa
        generalize joinB [mtext c] = JJ at hjs HT ⊢
        go_wp2_with fail
        go_ret
        exact ⟨by rw [HT.out]; rfl, stepB hbelw5 hb9⟩

end Go.Proofs.YtbccnfgceabopaaDoor
