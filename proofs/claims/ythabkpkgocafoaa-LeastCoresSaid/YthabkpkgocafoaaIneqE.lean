/- The contract of ineq.Holds. -/
import Derived.Test.YthabkpkgocafoaaIneqB
import Derived.Test.YthabkpkgocafoaaIneqC
namespace Go.Proofs.Ythabkpkgocafoaa
set_option linter.unusedVariables false
set_option linter.unusedSimpArgs false
open Go.RowKit

def mayX (x : IneqD) : Bool := mayQ x.lv x.lc x.c x.r
def holdsX (asg : List Int) (x : IneqD) : Bool := holdsQ asg x.lv x.lc x.c x.r
def badX (asg : List Int) (x : IneqD) : Bool := badQ asg x.lv x.lc x.r
def firstGo (asg : List Int) : List IneqD → Int → Int
  | [], _ => -1
  | x :: r, i => if holdsX asg x then firstGo asg r (i + 1) else i
def holdsAll (asg : List Int) (xs : List IneqD) : Int × Int :=
  if xs.all mayX then (if xs.any (badX asg) then (0, 5) else (firstGo asg xs 0, 0)) else (0, 2)
theorem mayQ_at {lv lc c r x : Int} (hx : mayQE lv lc c r = x) (w : World) :
    Calls Try.prog 49 #[.agg #[.int .i64 lv, .int .u8 lc, .int .u8 c, .int .i64 r]] w fun e w' => e = .returned (.int .i64 x) ∧ Below w.heap.size w w' := by
  rw [← hx]; exact ineqMay_any lv lc c r w
theorem mayX_lv {x : IneqD} (h : mayX x = true) : x.lc = 0 → 0 ≤ x.lv := by
  intro h0
  unfold mayX mayQ isB oneB at h
  rw [h0] at h
  simp at h
  omega


theorem lookerHolds_at {lv lc c r : Int} {asg : List Int} {y : Bool} (hy : holdsQ asg lv lc c r = y) (g : Nat) (bad : Bool) (w : World) (h : Looks w g asg bad) (hg : g < w.heap.size) (hlv : lc = 0 → 0 ≤ lv) :
    Calls Try.prog 50 #[.pointer (some ⟨g, 0, none⟩), .agg #[.int .i64 lv, .int .u8 lc, .int .u8 c, .int .i64 r]] w fun e w' => e = .returned (.bool y) ∧ Looks w' g asg (bad || badQ asg lv lc r) ∧ Below g w w' := by
  rw [← hy]; exact lookerHolds_any lv lc c r g asg bad w h hg hlv

set_option maxHeartbeats 1000000 in
theorem holds_any (A : Option Addr) (n c : Nat) (xs : List IneqD) (A' : Option Addr) (n' c' : Nat) (asg : List Int) (w : World) (hx : IneqsV w w.heap.size A n c xs) (ha : RdI .u8 w w.heap.size A' n' c' asg) :
    Calls Try.prog 24 #[.slice A n c, .slice A' n' c'] w fun e w' => e = .returned (.tuple #[.int .i64 (holdsAll asg xs).1, .int .i64 (holdsAll asg xs).2]) ∧ Below w.heap.size w w' := by
  have hn63 : n ≤ 9223372036854775807 := Nat.le_trans hx.2.1 hx.2.2.1
  have Hl := Lib.hid hx.len
  have Hx := Lib.hid hx
  have Ha := Lib.hid ha
  clear hx ha
  go_enter Try.func24, Try.ntmps24
  go_wp2_with fail
  go_loopg [7, 8, 15] n (fun g p ev i wr => ∃ k : Nat, k ≤ n ∧ g = n - k ∧ i = .int .i64 k ∧ Hid (xs.all mayX = (xs.drop k).all mayX) ∧ Hid (Below w.heap.size w wr))
  case atStart => exact ⟨0, Nat.zero_le _, rfl, rfl, Lib.hid rfl, Lib.hid (Below.refl _ _)⟩
  case round =>
    obtain ⟨k, hk, rfl, rfl, Hm, Hb⟩ := hrel
    by_cases hlk : k < n
    · have hk' : k < xs.length := by rw [Hl.out]; exact hlk
      obtain ⟨b, off, rfl, hb, hcell⟩ := (Hx.out.below Hb.out).at_ (by omega)
      obtain ⟨e0, e1, e2, e3⟩ := hcell k hk'
      have hdrop : xs.drop k = xs[k] :: xs.drop (k + 1) := List.drop_eq_getElem_cons hk'
      generalize xs[k] = x at e0 e1 e2 e3 hdrop
      have Hdrop := Lib.hid hdrop
      clear hdrop hcell
      cases hm : mayX x
      · have H5 : Hid (holdsAll asg xs = (0, 2)) := by show _ = _; unfold holdsAll; rw [Hm.out, Hdrop.out]; simp [hm]
        have Hq : Hid (mayQE x.lv x.lc x.c x.r = 2) := Lib.hid (mayQE_no hm)
        clear hm
        go_wp2_with fail
        refine (mayQ_at Hq.out _).mono ?_; rintro e w2 ⟨rfl, hb2⟩
        have hb' := Hb.out.trans (((below_box _).trans (hb2.mono (by simp))).mono Hb.out.size)
        go_wp2_with fail
        go_ret2
        exact ⟨by rw [H5.out]; rfl, hb'⟩
      · have Hm' : Hid (xs.all mayX = (xs.drop (k + 1)).all mayX) := by show _ = _; rw [Hm.out, Hdrop.out]; simp [hm]
        have Hq : Hid (mayQE x.lv x.lc x.c x.r = 0) := Lib.hid (mayQE_yes hm)
        clear hm
        go_wp2_with fail
        refine (mayQ_at Hq.out _).mono ?_; rintro e w2 ⟨rfl, hb2⟩
        have Hb' := Lib.hid (Hb.out.trans (((below_box _).trans (hb2.mono (by simp))).mono Hb.out.size))
        go_wp2_with fail
        go_roundg (n - (k + 1))
        case measure => omega
        case rel => exact ⟨k + 1, by omega, rfl, by go_num, Hm', Hb'⟩
    · have hkn : k = n := by omega
      subst hkn
      have Hall : Hid (xs.all mayX = true) := by show _ = _; rw [Hm.out, List.drop_of_length_le (by rw [Hl.out]; exact Nat.le_refl _)]; rfl
      go_wp2_with fail
      have hlook : Looks (wr.alloc (Obj.cells #[.slice A' n' c', .bool false] 83)) wr.heap.size asg false :=
        ⟨A', n', c', blk_new _ _ _, (((Ha.out.below Hb.out).more Hb.out.size).below (below_box _))⟩
      have hb1 : Below w.heap.size w (wr.alloc (Obj.cells #[.slice A' n' c', .bool false] 83)) := Hb.out.trans ((below_box _).mono Hb.out.size)
      have hg1 : wr.heap.size < (wr.alloc (Obj.cells #[.slice A' n' c', .bool false] 83)).heap.size := by simp
      have hg0 := Hb.out.size
      generalize wr.alloc (Obj.cells #[.slice A' n' c', .bool false] 83) = w1 at hlook hb1 hg1 ⊢
      generalize wr.heap.size = gl at hlook hg1 hg0 ⊢
      have Hlook := Lib.hid hlook
      have Hb1 := Lib.hid hb1
      have Hg1 := Lib.hid hg1
      have Hg0 := Lib.hid hg0
      clear hlook hb1 hg1 hg0 Hb Hm
      go_loopg [10, 11, 12, 30] k (fun g f _ p i wr => ∃ (j : Nat) (F : Int) (bad : Bool), j ≤ k ∧ g = k - j ∧ i = .int .i64 j ∧ f = .int .i64 F ∧ Hid (Looks wr gl asg bad) ∧ Hid (Below w.heap.size w wr) ∧ Hid (gl < wr.heap.size) ∧ Hid (xs.any (badX asg) = (bad || (xs.drop j).any (badX asg))) ∧ (F < 0 ∧ F = -1 ∧ Hid (firstGo asg xs 0 = firstGo asg (xs.drop j) j) ∨ 0 ≤ F ∧ Hid (firstGo asg xs 0 = F)))
      case atStart => exact ⟨0, -1, false, Nat.zero_le _, rfl, rfl, rfl, Hlook, Hb1, Hg1, Lib.hid rfl, .inl ⟨by omega, rfl, Lib.hid rfl⟩⟩
      case round =>
        obtain ⟨j, F, bad, hj, rfl, rfl, rfl, HL, HB, HG, Hbad, hF⟩ := hrel
        by_cases hlj : j < k
        · have hj' : j < xs.length := by rw [Hl.out]; exact hlj
          obtain ⟨b, off, rfl, hb, hcell⟩ := (Hx.out.below HB.out).at_ (by omega)
          obtain ⟨e0, e1, e2, e3⟩ := hcell j hj'
          have hdrop : xs.drop j = xs[j] :: xs.drop (j + 1) := List.drop_eq_getElem_cons hj'
          have hmx : mayX xs[j] = true := List.all_eq_true.1 Hall.out _ (List.getElem_mem hj')
          generalize xs[j] = x at e0 e1 e2 e3 hdrop hmx
          have Hdrop := Lib.hid hdrop
          have Hlv := Lib.hid (mayX_lv hmx)
          clear hdrop hcell hmx
          cases hh : holdsX asg x
          · have Hh : Hid (holdsQ asg x.lv x.lc x.c x.r = false) := Lib.hid hh
            have Hh' : Hid (holdsX asg x = false) := Lib.hid hh
            clear hh
            rcases hF with ⟨hF0, rfl, HF⟩ | ⟨hF0, HF⟩
            · have HF' : Hid (firstGo asg xs 0 = (j : Int)) := by show _ = _; rw [HF.out, Hdrop.out]; simp [firstGo, Hh'.out]
              clear HF hF0
              have HL2 := Lib.hid (HL.out.below (below_box (w := wr) (Obj.cells #[.int .i64 x.lv, .int .u8 x.lc, .int .u8 x.c, .int .i64 x.r] 31)) HG.out)
              have HG2 : Hid (gl < (wr.alloc (Obj.cells #[.int .i64 x.lv, .int .u8 x.lc, .int .u8 x.c, .int .i64 x.r] 31)).heap.size) := Lib.hid (Nat.lt_of_lt_of_le HG.out (below_box (w := wr) _).size)
              go_wp2_with fail
              refine (lookerHolds_at Hh.out gl bad _ HL2.out HG2.out Hlv.out).mono ?_; rintro e w2 ⟨rfl, hL3, hb3⟩
              have HB' := Lib.hid (HB.out.trans (((below_box (w := wr) _).mono HB.out.size).trans (hb3.mono Hg0.out)))
              have HG' : Hid (gl < w2.heap.size) := Lib.hid (Nat.lt_of_lt_of_le HG2.out hb3.size)
              have Hbad' : Hid (xs.any (badX asg) = ((bad || badQ asg x.lv x.lc x.r) || (xs.drop (j + 1)).any (badX asg))) := by show _ = _; rw [Hbad.out, Hdrop.out]; simp [badX, Bool.or_assoc]
              clear hb3
              go_wp2_with fail
              go_roundg (k - (j + 1))
              case measure => omega
              case rel => exact ⟨j + 1, j, _, by omega, rfl, by go_num, rfl, Lib.hid hL3, HB', HG', Hbad', .inr ⟨by omega, HF'⟩⟩
            ·
              have HL2 := Lib.hid (HL.out.below (below_box (w := wr) (Obj.cells #[.int .i64 x.lv, .int .u8 x.lc, .int .u8 x.c, .int .i64 x.r] 31)) HG.out)
              have HG2 : Hid (gl < (wr.alloc (Obj.cells #[.int .i64 x.lv, .int .u8 x.lc, .int .u8 x.c, .int .i64 x.r] 31)).heap.size) := Lib.hid (Nat.lt_of_lt_of_le HG.out (below_box (w := wr) _).size)
              go_wp2_with fail
              refine (lookerHolds_at Hh.out gl bad _ HL2.out HG2.out Hlv.out).mono ?_; rintro e w2 ⟨rfl, hL3, hb3⟩
              have HB' := Lib.hid (HB.out.trans (((below_box (w := wr) _).mono HB.out.size).trans (hb3.mono Hg0.out)))
              have HG' : Hid (gl < w2.heap.size) := Lib.hid (Nat.lt_of_lt_of_le HG2.out hb3.size)
              have Hbad' : Hid (xs.any (badX asg) = ((bad || badQ asg x.lv x.lc x.r) || (xs.drop (j + 1)).any (badX asg))) := by show _ = _; rw [Hbad.out, Hdrop.out]; simp [badX, Bool.or_assoc]
              clear hb3
              go_wp2_with fail
              go_roundg (k - (j + 1))
              case measure => omega
              case rel => exact ⟨j + 1, F, _, by omega, rfl, by go_num, rfl, Lib.hid hL3, HB', HG', Hbad', .inr ⟨hF0, HF⟩⟩
          · have Hh : Hid (holdsQ asg x.lv x.lc x.c x.r = true) := Lib.hid hh
            have Hh' : Hid (holdsX asg x = true) := Lib.hid hh
            clear hh
            rcases hF with ⟨hF0, rfl, HF⟩ | ⟨hF0, HF⟩
            · have HF' : Hid (firstGo asg xs 0 = firstGo asg (xs.drop (j + 1)) ((j + 1 : Nat) : Int)) := by show _ = _; rw [HF.out, Hdrop.out]; simp [firstGo, Hh'.out]
              clear HF hF0
              have HL2 := Lib.hid (HL.out.below (below_box (w := wr) (Obj.cells #[.int .i64 x.lv, .int .u8 x.lc, .int .u8 x.c, .int .i64 x.r] 31)) HG.out)
              have HG2 : Hid (gl < (wr.alloc (Obj.cells #[.int .i64 x.lv, .int .u8 x.lc, .int .u8 x.c, .int .i64 x.r] 31)).heap.size) := Lib.hid (Nat.lt_of_lt_of_le HG.out (below_box (w := wr) _).size)
              go_wp2_with fail
              refine (lookerHolds_at Hh.out gl bad _ HL2.out HG2.out Hlv.out).mono ?_; rintro e w2 ⟨rfl, hL3, hb3⟩
              have HB' := Lib.hid (HB.out.trans (((below_box (w := wr) _).mono HB.out.size).trans (hb3.mono Hg0.out)))
              have HG' : Hid (gl < w2.heap.size) := Lib.hid (Nat.lt_of_lt_of_le HG2.out hb3.size)
              have Hbad' : Hid (xs.any (badX asg) = ((bad || badQ asg x.lv x.lc x.r) || (xs.drop (j + 1)).any (badX asg))) := by show _ = _; rw [Hbad.out, Hdrop.out]; simp [badX, Bool.or_assoc]
              clear hb3
              go_wp2_with fail
              go_roundg (k - (j + 1))
              case measure => omega
              case rel => exact ⟨j + 1, -1, _, by omega, rfl, by go_num, rfl, Lib.hid hL3, HB', HG', Hbad', .inl ⟨by omega, rfl, HF'⟩⟩
            ·
              have HL2 := Lib.hid (HL.out.below (below_box (w := wr) (Obj.cells #[.int .i64 x.lv, .int .u8 x.lc, .int .u8 x.c, .int .i64 x.r] 31)) HG.out)
              have HG2 : Hid (gl < (wr.alloc (Obj.cells #[.int .i64 x.lv, .int .u8 x.lc, .int .u8 x.c, .int .i64 x.r] 31)).heap.size) := Lib.hid (Nat.lt_of_lt_of_le HG.out (below_box (w := wr) _).size)
              go_wp2_with fail
              refine (lookerHolds_at Hh.out gl bad _ HL2.out HG2.out Hlv.out).mono ?_; rintro e w2 ⟨rfl, hL3, hb3⟩
              have HB' := Lib.hid (HB.out.trans (((below_box (w := wr) _).mono HB.out.size).trans (hb3.mono Hg0.out)))
              have HG' : Hid (gl < w2.heap.size) := Lib.hid (Nat.lt_of_lt_of_le HG2.out hb3.size)
              have Hbad' : Hid (xs.any (badX asg) = ((bad || badQ asg x.lv x.lc x.r) || (xs.drop (j + 1)).any (badX asg))) := by show _ = _; rw [Hbad.out, Hdrop.out]; simp [badX, Bool.or_assoc]
              clear hb3
              go_wp2_with fail
              go_roundg (k - (j + 1))
              case measure => omega
              case rel => exact ⟨j + 1, F, _, by omega, rfl, by go_num, rfl, Lib.hid hL3, HB', HG', Hbad', .inr ⟨hF0, HF⟩⟩
        · have hjk : j = k := by omega
          subst hjk
          have hfin : (F < 0 ∧ F = -1 ∨ 0 ≤ F) ∧ Hid (firstGo asg xs 0 = F) := by
            rcases hF with ⟨h1, h2, h3⟩ | ⟨h1, h3⟩
            · exact ⟨.inl ⟨h1, h2⟩, by show _ = _; rw [h3.out, List.drop_of_length_le (by rw [Hl.out]; exact Nat.le_refl _), h2]; rfl⟩
            · exact ⟨.inr h1, h3⟩
          obtain ⟨_, HF⟩ := hfin
          clear hF
          have hany : xs.any (badX asg) = bad := by rw [Hbad.out, List.drop_of_length_le (by rw [Hl.out]; exact Nat.le_refl _)]; simp
          cases bad
          · have H5 : Hid (holdsAll asg xs = (F, 0)) := by show _ = _; unfold holdsAll; rw [Hall.out, hany, HF.out]; rfl
            obtain ⟨A2, n2, c2, hk2, _⟩ := HL.out
            have z1 : wr.cell? ⟨gl, 1, none⟩ = some (.bool false) := hk2.cell 1
            clear hany hk2
            go_wp2_with fail
            go_ret2
            exact ⟨by rw [H5.out]; rfl, HB.out⟩
          · have H5 : Hid (holdsAll asg xs = (0, 5)) := by show _ = _; unfold holdsAll; rw [Hall.out, hany]; rfl
            obtain ⟨A2, n2, c2, hk2, _⟩ := HL.out
            have z1 : wr.cell? ⟨gl, 1, none⟩ = some (.bool true) := hk2.cell 1
            clear hany hk2
            go_wp2_with fail
            go_ret2
            exact ⟨by rw [H5.out]; rfl, HB.out⟩

end Go.Proofs.Ythabkpkgocafoaa
