/- Contracts of slices.Equal at inequalities and at texts; of the law's below. -/
import Derived.Test.YtbccnfgceabopaaDoorIneqR
import Derived.Test.YtbccnfgceabopaaDoorIneqE
import Derived.Test.YtbccnfgceabopaaDoorIneqU
import Derived.Test.YtbccnfgceabopaaDoorTextI
import Derived.BigQuiet
import Derived.Deep.QuietTactic
namespace Go.Proofs.YtbccnfgceabopaaDoor
set_option linter.unusedVariables false
set_option linter.unusedSimpArgs false
open Go.RowKit

set_option maxRecDepth 100000 in
theorem eqQ_true (A : Option Addr) (n c : Nat) (A' : Option Addr) (n' c' : Nat) (xs : List IneqD) (w : World) (B B' : Nat) (h1 : IneqsV w B A n c xs) (h2 : IneqsV w B' A' n' c' xs) :
    Calls Tryd.prog 24 #[.slice A n c, .slice A' n' c'] w fun e w' => e = .returned (.bool true) ∧ Below w.heap.size w w' := by
  obtain rfl : n = n' := h1.1.symm.trans h2.1
  have hn63 : n ≤ 9223372036854775807 := Nat.le_trans h1.2.1 h1.2.2.1
  have Hl := Lib.hid h1.1
  have H1 := Lib.hid h1
  have H2 := Lib.hid h2
  clear h1 h2
  go_enter Tryd.func24, Tryd.ntmps24
  go_wp2_with fail
  go_loopg [13] n (fun gh i wr => ∃ k q : Nat, k ≤ n ∧ gh = n - k ∧ i = .int .i64 k ∧ wr = w.drewN q)
  case atStart => exact ⟨0, 0, Nat.zero_le _, rfl, rfl, rfl⟩
  case round =>
    obtain ⟨k, q, hk, rfl, rfl, rfl⟩ := hrel
    by_cases hlk : k < n
    · have hk' : k < xs.length := by rw [Hl.out]; exact hlk
      obtain ⟨b, off, rfl, hb, hcell⟩ := H1.out.at_ (by omega)
      obtain ⟨b', off', rfl, hb', hcell'⟩ := H2.out.at_ (by omega)
      obtain ⟨e0, e1, e2, e3⟩ := hcell k hk'
      obtain ⟨f0, f1, f2, f3⟩ := hcell' k hk'
      generalize xs[k] = x at e0 e1 e2 e3 f0 f1 f2 f3
      have i1 : (0 : Int) ≤ (k : Int) := by omega
      have i2 : (k : Int) < n := by omega
      clear hcell hcell'
      go_wp2_with fail
      go_quiet (fail)
      go_wp2_with fail
      go_roundg (n - (k + 1))
      case measure => omega
      case rel => exact ⟨k + 1, _, by omega, rfl, by go_num, rfl⟩
    · have hkn : k = n := by omega
      subst hkn
      go_wp2_with fail
      go_ret
      exact ⟨rfl, below_drewN_t (Below.refl _ _) _⟩

/-- a slice of texts -/
def RdS (w : World) (B : Nat) (A : Option Addr) (n c : Nat) (l : List ByteArray) : Prop := Rd w B 1 A n (l.map Value.string) ∧ n ≤ c ∧ c ≤ maxLen
section
variable {w w' : World} {B n c : Nat} {A : Option Addr} {l : List ByteArray}
theorem RdS.len (h : RdS w B A n c l) : l.length = n := by simpa using h.1.1
theorem RdS.below (h : RdS w B A n c l) (hb : Below B w w') : RdS w' B A n c l := ⟨h.1.below hb, h.2⟩
theorem RdS.fresh (h : RdS w w.heap.size A n c l) (hb : Below w.heap.size w w') : RdS w' w'.heap.size A n c l := ⟨(h.1.below hb).more hb.size, h.2⟩
theorem RdS.nil : RdS w B none 0 0 [] := ⟨Rd.nil, Nat.le_refl _, Nat.zero_le _⟩
theorem RdS.cells (h : RdS w B A n c l) (hn : 0 < n) : ∃ b off, A = some ⟨b, off, none⟩ ∧ ∀ j, j < l.length → w.cell? ⟨b, off + j, none⟩ = some (.string (l.getD j ByteArray.empty)) := by
  obtain ⟨b, off, e, hb, hc⟩ := h.1.2 hn
  exact ⟨b, off, e, fun j hj => hc j _ (by simp [List.getD, hj])⟩
theorem RdS.of_own {base : Nat} {e : TypeId} (h : w.ownsRow base e 1 (.slice A n c) n (l.map Value.string)) : RdS w w.heap.size A n c l := by
  rcases h.2 with ⟨e0, hn⟩ | ⟨g, cap, cur, e0, hb, hg, hn, hm, hs, ht⟩
  · injection e0 with e1 e2 e3
    subst e1; subst e2; subst e3
    have : l = [] := by
      have := h.1
      simp at this
      exact this
    subst this
    exact RdS.nil
  · injection e0 with e1 e2 e3
    subst e1; subst e3
    refine ⟨⟨h.1, fun hn0 => ⟨g, 0, rfl, (Array.getElem?_eq_some_iff.1 hg).1, fun j u hu => ?_⟩⟩, hn, hm⟩
    have := h.cells (g := g) rfl j u hu
    rw [show (Addr.add ⟨g, 0, none⟩ j) = ⟨g, 0 + j, none⟩ from by unfold Addr.add; split <;> simp_all] at this
    exact this
theorem RdS.new (w : World) (l : List ByteArray) (t : TypeId) (hl : l.length ≤ maxLen) : RdS (w.alloc (.cells (l.map Value.string).toArray t)) (w.heap.size + 1) (some ⟨w.heap.size, 0, none⟩) l.length l.length l := by
  have h := Rd.new w (l.map Value.string) t
  rw [List.length_map] at h
  exact ⟨h, Nat.le_refl _, hl⟩
end

theorem eqS_any {A : Option Addr} {n c : Nat} {A' : Option Addr} {n' c' : Nat} {l l' : List ByteArray} {w : World} {B B' : Nat} (h1 : RdS w B A n c l) (h2 : RdS w B' A' n' c' l') (x : Bool) (hx : decide (l = l') = x) :
    Calls Tryd.prog 14 #[.slice A n c, .slice A' n' c'] w fun e w' => e = .returned (.bool x) ∧ Below w.heap.size w w' := by
  have e1 := h1.len
  have e2 := h2.len
  have m1 : n ≤ 9223372036854775807 := Nat.le_trans h1.2.1 h1.2.2
  have m2 : n' ≤ 9223372036854775807 := Nat.le_trans h2.2.1 h2.2.2
  by_cases hnm : n = n'
  · subst hnm
    by_cases h0 : n = 0
    · subst h0
      obtain rfl := List.eq_nil_of_length_eq_zero e1
      obtain rfl := List.eq_nil_of_length_eq_zero e2
      exact (Tryd.slices_Equal_string_empty A A' c 0 c' w m2).mono fun e w' ⟨he, hw⟩ => ⟨by rw [he, ← hx]; rfl, by rw [hw]; exact Below.refl _ _⟩
    · obtain ⟨b, off, rfl, hc⟩ := h1.cells (by omega)
      obtain ⟨b', off', rfl, hc'⟩ := h2.cells (by omega)
      refine (Tryd.slices_Equal_string b off n c b' off' n c' l l' w (by omega) (by omega) m1 m2 hc hc').mono fun e w' ⟨he, q, hw⟩ => ⟨?_, by rw [hw]; exact below_drewN_t (Below.refl _ _) q⟩
      rw [he, ← hx, List.take_of_length_le (by omega), List.take_of_length_le (by omega)]
  · refine (Tryd.slices_Equal_string_lens A A' n c n' c' w hnm).mono fun e w' ⟨he, hw⟩ => ⟨?_, by rw [hw]; exact Below.refl _ _⟩
    rw [he, ← hx, decide_eq_false]
    intro e
    rw [e] at e1
    omega

/-! ### what Fits tells may be -/
theorem fits_may {t : TermD} {g mv mc : Int} (h : fitsB t g mv mc = true) : ∀ x ∈ fitsQ t g mv mc, mayX x = true := by
  unfold fitsB at h
  simp only [Bool.and_eq_true, decide_eq_true_eq] at h
  obtain ⟨⟨⟨hm, hi⟩, hg1⟩, hg2⟩ := h
  have hi' : (mc = 0 ∧ 0 ≤ mv ∧ mv < 1048576) ∨ (1 ≤ mc ∧ mc ≤ 3 ∧ mv = 0) := by
    unfold isB oneB at hi
    simp only [Bool.or_eq_true, Bool.and_eq_true, decide_eq_true_eq, beq_iff_eq] at hi
    omega
  have hc : 1 ≤ max g mc ∧ max g mc ≤ 3 := by omega
  have hr : -1 ≤ (if mc = 0 then mv else -1) ∧ (if mc = 0 then mv else -1) < 1048576 := by split <;> omega
  unfold fitsQ
  generalize max g mc = c at hc ⊢
  generalize (if mc = 0 then mv else -1) = r at hr ⊢
  have htop : 1 ≤ (leastT t).c ∧ (leastT t).c ≤ 3 := by
    rcases (may_iff t).1 hm with ⟨h1, _⟩ | ⟨h1, h2, h3, _⟩
    · unfold leastT; rw [if_pos h1]; simp
    · unfold leastT; rw [if_neg (by simp [h1])]; exact ⟨h2, h3⟩
  have hvs : ∀ v ∈ (leastT t).vars, 0 ≤ v ∧ v < 1048576 := by
    intro v hv
    unfold leastT at hv
    split at hv
    · simp at hv
    · exact may_vars hm v hv
  intro x hx
  unfold fitsL putsV at hx
  rcases List.mem_append.1 hx with hx | hx
  · unfold putQ at hx
    split at hx
    · rw [List.mem_singleton] at hx
      subst hx
      simp [mayX, mayQ, isB, oneB, hc, hr, htop]
    · simp at hx
  · obtain ⟨v, hv, hx⟩ := List.mem_flatMap.1 hx
    have := hvs v hv
    unfold putQ at hx
    split at hx
    · rw [List.mem_singleton] at hx
      subst hx
      simp [mayX, mayQ, isB, oneB, hc, hr, this]
    · simp at hx
theorem mayX_bounds {x : IneqD} (h : mayX x = true) : (0 ≤ x.lv ∧ x.lv < 1048576) ∧ -1 ≤ x.r ∧ x.r < 1048576 := by
  unfold mayX mayQ isB oneB at h
  simp only [Bool.or_eq_true, Bool.and_eq_true, decide_eq_true_eq, beq_iff_eq] at h
  omega
theorem fits_len (t : TermD) (g mv mc : Int) : (fitsQ t g mv mc).length ≤ t.vars.length + 1 := by
  have h := outX_len (max g mc) (if mc = 0 then mv else -1) (leastT t).c (leastT t).vars
  have h2 : (leastT t).vars.length ≤ t.vars.length := by
    unfold leastT
    split
    · simp
    · exact Nat.le_refl _
  have : fitsQ t g mv mc = outX (max g mc) (if mc = 0 then mv else -1) (leastT t).c (leastT t).vars := rfl
  rw [this]
  omega

def textX (x : IneqD) : ByteArray := textQ x.lv x.lc x.c x.r
theorem strInfo : (Tryd.prog.info? 9).map (fun i => (i.zero, i.size, i.bytes)) = some (some (.string ⟨#[]⟩), 1, 16) := by kernel_rfl

set_option maxRecDepth 100000 in
set_option maxHeartbeats 1000000 in
theorem below_yes (tv : Value) (t : TermD) (g mv mc : Int) (w : World) (B : Nat) (hv : TermV w B tv t) (hB : B ≤ w.heap.size) (h : fitsB t g mv mc = true) (hbig : t.vars.length ≤ 10000) (ht : Tab w) :
    Calls Tryd.prog 12 #[tv, .int .u8 g, .agg #[.int .i64 mv, .int .u8 mc]] w fun e w' => ∃ A n c, e = .returned (.tuple #[.slice A n c, .int .i64 0]) ∧ RdS w' w'.heap.size A n c ((fitsQ t g mv mc).map textX) ∧ Below w.heap.size w w' := by
  obtain ⟨i0, hi0, hz0, hz1, hz2⟩ := info_parts strInfo
  obtain ⟨A, n, cp, rfl, hr⟩ := hv
  obtain ⟨hb0, hs0, ht0, hm0⟩ := F0_facts t A n cp mv mc w
  have hr0 := (hr.more hB).below hb0
  have hq := fits_yes (.agg #[.bool t.never, .int .u8 t.c, .slice A n cp]) t g mv mc (F0 t A n cp mv mc w) w.heap.size ⟨A, n, cp, rfl, hr0⟩ (by omega) h (by omega)
  have Hq := Lib.hid hq
  have Ht := Lib.hid ht
  have hmay := fits_may h
  have hlen := fits_len t g mv mc
  generalize fitsQ t g mv mc = xs at Hq hmay hlen ⊢
  have Hmay := Lib.hid hmay
  clear hq h ht hmay
  go_enter Tryd.func12, Tryd.ntmps12
  go_wp2_with fail
  refine Hq.out.mono ?_
  rintro e w1 ⟨A1, n1, c1, rfl, hx1, hb1⟩
  have hw1 := hb0.trans (hb1.mono (by omega))
  have hl1 : n1 ≤ 10001 := by have := hx1.len; omega
  have Hl := Lib.hid hx1.len
  clear hb1 hs0 ht0 hm0 hr0 hb0 hlen Hq
  go_wp2_with fail
  have Hx1 := Lib.hid hx1
  clear hx1
  go_loopg [10, 22] n1 (fun gh out i wr => ∃ k A2 c2, k ≤ n1 ∧ gh = n1 - k ∧ i = .int .i64 (k : Nat) ∧ out = .slice A2 k c2 ∧ wr.ownsRow w1.heap.size 9 1 (.slice A2 k c2) k (((xs.take k).map textX).map Value.string) ∧ Below w1.heap.size w1 wr)
  case atStart => exact ⟨0, none, 0, Nat.zero_le _, rfl, rfl, rfl, by rw [List.take_zero]; exact World.ownsRow_nil _ _ _ _, Below.refl _ _⟩
  case round =>
    obtain ⟨k, A2, c2, hk, rfl, rfl, rfl, ho, hb⟩ := hrel
    by_cases hlk : k < n1
    · have hk' : k < xs.length := by rw [Hl.out]; exact hlk
      obtain ⟨b, off, rfl, hbk, hcell⟩ := (Hx1.out.below hb).at_ (by omega)
      obtain ⟨e0, e1, e2, e3⟩ := hcell k hk'
      have hbd := mayX_bounds (Hmay.out xs[k] (List.getElem_mem hk'))
      have htk : xs.take (k + 1) = xs.take k ++ [xs[k]] := by rw [List.take_succ_eq_append_getElem hk']
      generalize xs[k] = x at e0 e1 e2 e3 htk hbd
      have Htk : Hid (((xs.take (k + 1)).map textX).map Value.string = ((xs.take k).map textX).map Value.string ++ [.string (textX x)]) := by show _ = _; rw [htk]; simp
      clear htk hcell
      have hbx := hb.trans ((below_box (w := wr) (Obj.cells #[.int .i64 x.lv, .int .u8 x.lc, .int .u8 x.c, .int .i64 x.r] 36)).mono hb.size)
      have hox := ho.alloc (Obj.cells #[.int .i64 x.lv, .int .u8 x.lc, .int .u8 x.c, .int .i64 x.r] 36)
      clear ho
      go_wp2_with fail
      refine (ineqText_any x.lv x.lc x.c x.r _ (Ht.out.below (hw1.trans (hbx.mono hw1.size))) (by omega) (by omega)).mono ?_
      rintro e w3 ⟨rfl, hb3⟩
      have hb3' := hbx.trans (hb3.mono hbx.size)
      have ho3 := ownsRow_beyond hox hb3
      clear hb3 hox hbx hb
      rw [show textQ x.lv x.lc x.c x.r = textX x from rfl]
      generalize textX x = s at Htk ⊢
      go_wp2_with (at_builtin; refine wpList_append_one w1 w3 rfl (.tmp 26) (.tmp 29) 26 rfl w1.heap.size 9 i0 _ 1 16 Tryd.underlying26 hi0 hz0 hz1 hz2 rfl (by omega) (.slice A2 k c2) k _ rfl [.string s] rfl (by intro u hu; simp at hu; subst hu; rfl) rfl ho3 (by unfold maxLen; omega) (by omega) hb3' hb3'.size ?_; intro A4 c4 w4 ho4 hb4 hg4 hz4; clear hg4)
      go_roundg (n1 - (k + 1))
      case measure => omega
      case rel => exact ⟨k + 1, A4, c4, by omega, rfl, by go_num, rfl, by rw [Htk.out]; exact ho4, hb4⟩
    · have hkn : k = n1 := by omega
      subst hkn
      have hall : xs.take k = xs := List.take_of_length_le (by rw [Hl.out]; exact Nat.le_refl _)
      have Ho := Lib.hid ho
      have Hall := Lib.hid hall
      clear hall ho
      go_wp2_with fail
      go_ret2
      exact ⟨A2, k, c2, rfl, by have := Ho.out; rw [Hall.out] at this; exact RdS.of_own this, hw1.trans (hb.mono hw1.size)⟩

end Go.Proofs.YtbccnfgceabopaaDoor
