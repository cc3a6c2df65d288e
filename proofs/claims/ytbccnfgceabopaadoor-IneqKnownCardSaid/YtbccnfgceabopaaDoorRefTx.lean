/- The contract of usufructref02.Text, and that it tells what term.Text tells. -/
import Derived.Test.YtbccnfgceabopaaDoorText
import Derived.Test.YtbccnfgceabopaaDoorPlA
namespace Go.Proofs.YtbccnfgceabopaaDoor
set_option linter.unusedVariables false
set_option linter.unusedSimpArgs false
open Go.RowKit

def rfold : ByteArray → List Int → ByteArray
  | s, [] => s
  | s, v :: r => rfold ((if s.toList = [] then s else s ++ ⟨#[124]⟩) ++ ⟨#[109]⟩ ++ numT v) r
def rtextT (t : TermD) : ByteArray := if t.never then ⟨#[48]⟩ else rfold (if 1 < t.c ∨ t.vars = [] then rtext t.c else ⟨#[]⟩) t.vars

theorem rtext_size (m : Int) : (rtext m).size ≤ 1 := by
  unfold rtext tOne tAff tMany
  split
  · decide
  · split <;> decide

set_option maxHeartbeats 1000000 in
set_option maxRecDepth 100000 in
theorem refText_t (v : Value) (t : TermD) (w : World) (B : Nat) (hv : TermV w B v t) (hB : B ≤ w.heap.size) (hbig : t.vars.length ≤ 1099511627776) (hwf : ∀ v ∈ t.vars, 0 ≤ v ∧ v ≤ 9223372036854775807) :
    Calls Tryd.prog 41 #[v] w fun e w' => e = .returned (.string (rtextT t)) ∧ Below w.heap.size w w' := by
  obtain ⟨A, n, c, rfl, hr⟩ := hv
  obtain ⟨tn, tc, tv⟩ := t
  have hl := hr.len
  have hn63 : n ≤ 1099511627776 := by rw [← hl]; exact hbig
  have hbel := (Below.refl w.heap.size w).alloc (Nat.le_refl _) (Obj.cells #[.bool tn, .int .u8 tc, .slice A n c] 25)
  have hr1 := (hr.more hB).below hbel
  have hself := blk_new w #[.bool tn, .int .u8 tc, .slice A n c] 25
  have Hl := Lib.hid hl
  have Hwf := Lib.hid hwf
  clear hl hbig hwf hr
  cases tn
  · have hways : (decide (1 < tc) = true ∧ (1 < tc ∨ tv = [])) ∨ (decide (1 < tc) = false ∧ ((n : Int) == 0) = true ∧ (1 < tc ∨ tv = [])) ∨ (decide (1 < tc) = false ∧ ((n : Int) == 0) = false ∧ ¬ (1 < tc ∨ tv = [])) := by
      have hl : tv.length = n := Hl.out
      by_cases h1 : 1 < tc
      · exact .inl ⟨by simpa using h1, .inl h1⟩
      · by_cases h2 : n = 0
        · exact .inr (.inl ⟨by simpa using h1, by simp [h2], .inr (List.eq_nil_of_length_eq_zero (by rw [hl, h2]))⟩)
        · refine .inr (.inr ⟨by simpa using h1, by simp; omega, ?_⟩)
          rintro (h | h)
          · exact h1 h
          · rw [h] at hl; simp at hl; omega
    have hF1 : (1 < tc ∨ tv = []) → rtextT ⟨false, tc, tv⟩ = rfold (rtext tc) tv := by
      intro h
      unfold rtextT
      simp only [Bool.false_eq_true, if_false]
      rw [if_pos h]
    have hF0 : ¬ (1 < tc ∨ tv = []) → rtextT ⟨false, tc, tv⟩ = rfold ⟨#[]⟩ tv := by
      intro h
      unfold rtextT
      simp only [Bool.false_eq_true, if_false]
      rw [if_neg h]
    rcases hways with ⟨d1, hh⟩ | ⟨d1, d2, hh⟩ | ⟨d1, d2, hh⟩
    · have HF := Lib.hid (hF1 hh)
      clear hh hF1 hF0
      go_enter Tryd.func41, Tryd.ntmps41
      go_wp2_with fail
      refine (refText_any tc _).mono ?_; rintro e w1 ⟨rfl, rfl⟩
      go_wp2_with fail
      generalize w.alloc (Obj.cells #[.bool false, .int .u8 tc, .slice A n c] 25) = w1 at hbel hr1 hself ⊢
      have c2 : w1.cell? ⟨w.heap.size, 2, none⟩ = some (.slice A n c) := hself.cell 2
      go_loopg [3, 4] n (fun g s i wr => ∃ (k : Nat) (S : ByteArray), k ≤ n ∧ g = n - k ∧ i = .int .i64 k ∧ s = .string S ∧ S.size ≤ 1 + 23 * k ∧ Hid (rfold S (tv.drop k) = rtextT ⟨false, tc, tv⟩) ∧ w1 = wr)
      case atStart => exact ⟨0, rtext tc, Nat.zero_le _, rfl, rfl, rfl, (rtext_size tc), Lib.hid HF.out.symm, rfl⟩
      case round =>
        obtain ⟨k, S, hk, rfl, rfl, rfl, hS, Hgo, rfl⟩ := hrel
        by_cases hlk : k < n
        · have hk' : k < tv.length := by rw [Hl.out]; exact hlk
          obtain ⟨b, off, rfl, hb, hcell⟩ := hr1.at_ (by omega)
          have x0 := hcell k hk'
          have hwk := Hwf.out tv[k] (List.getElem_mem hk')
          obtain ⟨z, hz⟩ : ∃ z : Nat, tv[k] = (z : Int) := ⟨tv[k].toNat, (Int.toNat_of_nonneg hwk.1).symm⟩
          have hdrop : tv.drop k = tv[k] :: tv.drop (k + 1) := List.drop_eq_getElem_cons hk'
          rw [hz] at x0 hwk hdrop
          have Hdrop := Lib.hid hdrop
          have hdl := dec_len z (by omega)
          have hnum : numT (z : Int) = ⟨(Lib.decDigits z).toArray⟩ := by unfold numT; rw [Lib.itoa_nonneg]
          have Hnum := Lib.hid hnum
          clear hdrop hcell hz hnum
          by_cases hE : S.toList = []
          · have hgo : rfold (S ++ ⟨#[109]⟩ ++ ⟨(Lib.decDigits z).toArray⟩) (tv.drop (k + 1)) = rtextT ⟨false, tc, tv⟩ := by
              rw [← Hgo.out, Hdrop.out, rfold, if_pos hE, Hnum.out]
            have Hgo' := Lib.hid hgo
            clear hgo
            go_wp2_with fail
            refine (digits_any z (by omega) w1).mono ?_; rintro e w3 ⟨rfl, rfl⟩
            generalize Lib.decDigits z = L at hdl Hgo' ⊢
            have hsz : (S ++ ⟨#[109]⟩ ++ ⟨L.toArray⟩).size ≤ 1 + 23 * (k + 1) := by
              rw [ByteArray.size_append, ByteArray.size_append, show (⟨#[109]⟩ : ByteArray).size = 1 from rfl, show (⟨L.toArray⟩ : ByteArray).size = L.length from rfl]
              omega
            go_wp2_with fail
            go_roundg (n - (k + 1))
            case measure => omega
            case rel => exact ⟨k + 1, S ++ ⟨#[109]⟩ ++ ⟨L.toArray⟩, by omega, rfl, by go_num, rfl, hsz, Hgo', rfl⟩
          · have hgo : rfold (S ++ ⟨#[124]⟩ ++ ⟨#[109]⟩ ++ ⟨(Lib.decDigits z).toArray⟩) (tv.drop (k + 1)) = rtextT ⟨false, tc, tv⟩ := by
              rw [← Hgo.out, Hdrop.out, rfold, if_neg hE, Hnum.out]
            have Hgo' := Lib.hid hgo
            have hE2 : (!S.toList.isEmpty) = true := by simpa using hE
            clear hgo hE
            go_wp2_with fail
            refine (digits_any z (by omega) w1).mono ?_; rintro e w3 ⟨rfl, rfl⟩
            generalize Lib.decDigits z = L at hdl Hgo' ⊢
            have hsz : (S ++ ⟨#[124]⟩ ++ ⟨#[109]⟩ ++ ⟨L.toArray⟩).size ≤ 1 + 23 * (k + 1) := by
              rw [ByteArray.size_append, ByteArray.size_append, ByteArray.size_append, show (⟨#[109]⟩ : ByteArray).size = 1 from rfl, show (⟨#[124]⟩ : ByteArray).size = 1 from rfl, show (⟨L.toArray⟩ : ByteArray).size = L.length from rfl]
              omega
            go_wp2_with fail
            go_roundg (n - (k + 1))
            case measure => omega
            case rel => exact ⟨k + 1, S ++ ⟨#[124]⟩ ++ ⟨#[109]⟩ ++ ⟨L.toArray⟩, by omega, rfl, by go_num, rfl, hsz, Hgo', rfl⟩
        · have hkn : k = n := by omega
          subst hkn
          have hf : S = rtextT ⟨false, tc, tv⟩ := by
            have := Hgo.out
            rw [List.drop_of_length_le (by rw [Hl.out]; exact Nat.le_refl _)] at this
            exact this
          have Hf := Lib.hid hf
          clear hf
          go_wp2_with fail
          go_ret
          exact ⟨by rw [← Hf.out]; rfl, hbel⟩
    · have HF := Lib.hid (hF1 hh)
      clear hh hF1 hF0
      go_enter Tryd.func41, Tryd.ntmps41
      go_wp2_with fail
      refine (refText_any tc _).mono ?_; rintro e w1 ⟨rfl, rfl⟩
      go_wp2_with fail
      generalize w.alloc (Obj.cells #[.bool false, .int .u8 tc, .slice A n c] 25) = w1 at hbel hr1 hself ⊢
      have c2 : w1.cell? ⟨w.heap.size, 2, none⟩ = some (.slice A n c) := hself.cell 2
      go_loopg [3, 4] n (fun g s i wr => ∃ (k : Nat) (S : ByteArray), k ≤ n ∧ g = n - k ∧ i = .int .i64 k ∧ s = .string S ∧ S.size ≤ 1 + 23 * k ∧ Hid (rfold S (tv.drop k) = rtextT ⟨false, tc, tv⟩) ∧ w1 = wr)
      case atStart => exact ⟨0, rtext tc, Nat.zero_le _, rfl, rfl, rfl, (rtext_size tc), Lib.hid HF.out.symm, rfl⟩
      case round =>
        obtain ⟨k, S, hk, rfl, rfl, rfl, hS, Hgo, rfl⟩ := hrel
        by_cases hlk : k < n
        · have hk' : k < tv.length := by rw [Hl.out]; exact hlk
          obtain ⟨b, off, rfl, hb, hcell⟩ := hr1.at_ (by omega)
          have x0 := hcell k hk'
          have hwk := Hwf.out tv[k] (List.getElem_mem hk')
          obtain ⟨z, hz⟩ : ∃ z : Nat, tv[k] = (z : Int) := ⟨tv[k].toNat, (Int.toNat_of_nonneg hwk.1).symm⟩
          have hdrop : tv.drop k = tv[k] :: tv.drop (k + 1) := List.drop_eq_getElem_cons hk'
          rw [hz] at x0 hwk hdrop
          have Hdrop := Lib.hid hdrop
          have hdl := dec_len z (by omega)
          have hnum : numT (z : Int) = ⟨(Lib.decDigits z).toArray⟩ := by unfold numT; rw [Lib.itoa_nonneg]
          have Hnum := Lib.hid hnum
          clear hdrop hcell hz hnum
          by_cases hE : S.toList = []
          · have hgo : rfold (S ++ ⟨#[109]⟩ ++ ⟨(Lib.decDigits z).toArray⟩) (tv.drop (k + 1)) = rtextT ⟨false, tc, tv⟩ := by
              rw [← Hgo.out, Hdrop.out, rfold, if_pos hE, Hnum.out]
            have Hgo' := Lib.hid hgo
            clear hgo
            go_wp2_with fail
            refine (digits_any z (by omega) w1).mono ?_; rintro e w3 ⟨rfl, rfl⟩
            generalize Lib.decDigits z = L at hdl Hgo' ⊢
            have hsz : (S ++ ⟨#[109]⟩ ++ ⟨L.toArray⟩).size ≤ 1 + 23 * (k + 1) := by
              rw [ByteArray.size_append, ByteArray.size_append, show (⟨#[109]⟩ : ByteArray).size = 1 from rfl, show (⟨L.toArray⟩ : ByteArray).size = L.length from rfl]
              omega
            go_wp2_with fail
            go_roundg (n - (k + 1))
            case measure => omega
            case rel => exact ⟨k + 1, S ++ ⟨#[109]⟩ ++ ⟨L.toArray⟩, by omega, rfl, by go_num, rfl, hsz, Hgo', rfl⟩
          · have hgo : rfold (S ++ ⟨#[124]⟩ ++ ⟨#[109]⟩ ++ ⟨(Lib.decDigits z).toArray⟩) (tv.drop (k + 1)) = rtextT ⟨false, tc, tv⟩ := by
              rw [← Hgo.out, Hdrop.out, rfold, if_neg hE, Hnum.out]
            have Hgo' := Lib.hid hgo
            have hE2 : (!S.toList.isEmpty) = true := by simpa using hE
            clear hgo hE
            go_wp2_with fail
            refine (digits_any z (by omega) w1).mono ?_; rintro e w3 ⟨rfl, rfl⟩
            generalize Lib.decDigits z = L at hdl Hgo' ⊢
            have hsz : (S ++ ⟨#[124]⟩ ++ ⟨#[109]⟩ ++ ⟨L.toArray⟩).size ≤ 1 + 23 * (k + 1) := by
              rw [ByteArray.size_append, ByteArray.size_append, ByteArray.size_append, show (⟨#[109]⟩ : ByteArray).size = 1 from rfl, show (⟨#[124]⟩ : ByteArray).size = 1 from rfl, show (⟨L.toArray⟩ : ByteArray).size = L.length from rfl]
              omega
            go_wp2_with fail
            go_roundg (n - (k + 1))
            case measure => omega
            case rel => exact ⟨k + 1, S ++ ⟨#[124]⟩ ++ ⟨#[109]⟩ ++ ⟨L.toArray⟩, by omega, rfl, by go_num, rfl, hsz, Hgo', rfl⟩
        · have hkn : k = n := by omega
          subst hkn
          have hf : S = rtextT ⟨false, tc, tv⟩ := by
            have := Hgo.out
            rw [List.drop_of_length_le (by rw [Hl.out]; exact Nat.le_refl _)] at this
            exact this
          have Hf := Lib.hid hf
          clear hf
          go_wp2_with fail
          go_ret
          exact ⟨by rw [← Hf.out]; rfl, hbel⟩
    · have HF := Lib.hid (hF0 hh)
      clear hh hF1 hF0
      go_enter Tryd.func41, Tryd.ntmps41
      go_wp2_with fail
      generalize w.alloc (Obj.cells #[.bool false, .int .u8 tc, .slice A n c] 25) = w1 at hbel hr1 hself ⊢
      have c2 : w1.cell? ⟨w.heap.size, 2, none⟩ = some (.slice A n c) := hself.cell 2
      go_loopg [3, 4] n (fun g s i wr => ∃ (k : Nat) (S : ByteArray), k ≤ n ∧ g = n - k ∧ i = .int .i64 k ∧ s = .string S ∧ S.size ≤ 1 + 23 * k ∧ Hid (rfold S (tv.drop k) = rtextT ⟨false, tc, tv⟩) ∧ w1 = wr)
      case atStart => exact ⟨0, ⟨#[]⟩, Nat.zero_le _, rfl, rfl, rfl, (by simp [ByteArray.size]), Lib.hid HF.out.symm, rfl⟩
      case round =>
        obtain ⟨k, S, hk, rfl, rfl, rfl, hS, Hgo, rfl⟩ := hrel
        by_cases hlk : k < n
        · have hk' : k < tv.length := by rw [Hl.out]; exact hlk
          obtain ⟨b, off, rfl, hb, hcell⟩ := hr1.at_ (by omega)
          have x0 := hcell k hk'
          have hwk := Hwf.out tv[k] (List.getElem_mem hk')
          obtain ⟨z, hz⟩ : ∃ z : Nat, tv[k] = (z : Int) := ⟨tv[k].toNat, (Int.toNat_of_nonneg hwk.1).symm⟩
          have hdrop : tv.drop k = tv[k] :: tv.drop (k + 1) := List.drop_eq_getElem_cons hk'
          rw [hz] at x0 hwk hdrop
          have Hdrop := Lib.hid hdrop
          have hdl := dec_len z (by omega)
          have hnum : numT (z : Int) = ⟨(Lib.decDigits z).toArray⟩ := by unfold numT; rw [Lib.itoa_nonneg]
          have Hnum := Lib.hid hnum
          clear hdrop hcell hz hnum
          by_cases hE : S.toList = []
          · have hgo : rfold (S ++ ⟨#[109]⟩ ++ ⟨(Lib.decDigits z).toArray⟩) (tv.drop (k + 1)) = rtextT ⟨false, tc, tv⟩ := by
              rw [← Hgo.out, Hdrop.out, rfold, if_pos hE, Hnum.out]
            have Hgo' := Lib.hid hgo
            clear hgo
            go_wp2_with fail
            refine (digits_any z (by omega) w1).mono ?_; rintro e w3 ⟨rfl, rfl⟩
            generalize Lib.decDigits z = L at hdl Hgo' ⊢
            have hsz : (S ++ ⟨#[109]⟩ ++ ⟨L.toArray⟩).size ≤ 1 + 23 * (k + 1) := by
              rw [ByteArray.size_append, ByteArray.size_append, show (⟨#[109]⟩ : ByteArray).size = 1 from rfl, show (⟨L.toArray⟩ : ByteArray).size = L.length from rfl]
              omega
            go_wp2_with fail
            go_roundg (n - (k + 1))
            case measure => omega
            case rel => exact ⟨k + 1, S ++ ⟨#[109]⟩ ++ ⟨L.toArray⟩, by omega, rfl, by go_num, rfl, hsz, Hgo', rfl⟩
          · have hgo : rfold (S ++ ⟨#[124]⟩ ++ ⟨#[109]⟩ ++ ⟨(Lib.decDigits z).toArray⟩) (tv.drop (k + 1)) = rtextT ⟨false, tc, tv⟩ := by
              rw [← Hgo.out, Hdrop.out, rfold, if_neg hE, Hnum.out]
            have Hgo' := Lib.hid hgo
            have hE2 : (!S.toList.isEmpty) = true := by simpa using hE
            clear hgo hE
            go_wp2_with fail
            refine (digits_any z (by omega) w1).mono ?_; rintro e w3 ⟨rfl, rfl⟩
            generalize Lib.decDigits z = L at hdl Hgo' ⊢
            have hsz : (S ++ ⟨#[124]⟩ ++ ⟨#[109]⟩ ++ ⟨L.toArray⟩).size ≤ 1 + 23 * (k + 1) := by
              rw [ByteArray.size_append, ByteArray.size_append, ByteArray.size_append, show (⟨#[109]⟩ : ByteArray).size = 1 from rfl, show (⟨#[124]⟩ : ByteArray).size = 1 from rfl, show (⟨L.toArray⟩ : ByteArray).size = L.length from rfl]
              omega
            go_wp2_with fail
            go_roundg (n - (k + 1))
            case measure => omega
            case rel => exact ⟨k + 1, S ++ ⟨#[124]⟩ ++ ⟨#[109]⟩ ++ ⟨L.toArray⟩, by omega, rfl, by go_num, rfl, hsz, Hgo', rfl⟩
        · have hkn : k = n := by omega
          subst hkn
          have hf : S = rtextT ⟨false, tc, tv⟩ := by
            have := Hgo.out
            rw [List.drop_of_length_le (by rw [Hl.out]; exact Nat.le_refl _)] at this
            exact this
          have Hf := Lib.hid hf
          clear hf
          go_wp2_with fail
          go_ret
          exact ⟨by rw [← Hf.out]; rfl, hbel⟩
  · clear hr1 hself
    go_enter Tryd.func41, Tryd.ntmps41
    go_wp2_with fail
    go_ret
    exact ⟨rfl, hbel⟩

/-! ### the plain law: both tell the same -/
theorem rtext_eq {c : Int} (h1 : 1 ≤ c) (h2 : c ≤ 3) : rtext c = mtext c := by
  have : c = 1 ∨ c = 2 ∨ c = 3 := by omega
  rcases this with rfl | rfl | rfl <;> rfl
theorem ba_append (a b : ByteArray) : (a ++ b).data.toList = a.data.toList ++ b.data.toList := by simp
theorem ba_toList (a : ByteArray) : a.toList = a.data.toList := by rw [ByteArray.toList_eq]
theorem ba_ext {a b : ByteArray} (h : a.data.toList = b.data.toList) : a = b := ByteArray.ext (Array.toList_inj.mp h)
theorem rfold_ne : ∀ (l : List Int) (s : ByteArray), s.data.toList ≠ [] → (rfold s l).data.toList = s.data.toList ++ (l.map fun v => [124] ++ (mname v).data.toList).flatten
  | [], s, _ => by simp [rfold]
  | v :: r, s, h => by
    have hs : ¬ s.toList = [] := by rw [ba_toList]; exact h
    unfold rfold
    rw [if_neg hs, rfold_ne r _ (by rw [ba_append, ba_append, ba_append]; simp [h])]
    rw [ba_append, ba_append, ba_append, List.map_cons, List.flatten_cons]
    unfold mname
    rw [ba_append]
    simp
theorem join_tail (x : List UInt8) (l : List (List UInt8)) : Lib.join (x :: l) [124] = x ++ (l.map fun y => [124] ++ y).flatten := by
  induction l generalizing x with
  | nil => rw [Lib.join_one]; simp
  | cons y l ih =>
    have := ih y
    unfold Lib.join at this ⊢
    rw [List.intercalate_cons_cons, this]
    simp
theorem text_eq {t : TermD} (ht : mayB t = true) : rtextT t = textT t := by
  unfold rtextT textT
  cases hn : t.never
  · simp only [Bool.false_eq_true, if_false]
    rcases (may_iff t).1 ht with h | ⟨_, h1, h2, _⟩
    · rw [hn] at h; simp at h
    · refine ba_ext ?_
      unfold joinB partsT headT
      by_cases hc : 1 < t.c ∨ t.vars = []
      · rw [if_pos hc, if_pos hc, rtext_eq h1 h2]
        have hne : (mtext t.c).data.toList ≠ [] := by
          unfold mtext tOne tAff tMany
          split
          · simp
          · split <;> simp
        rw [rfold_ne _ _ hne]
        simp only [List.singleton_append, List.map_cons]
        rw [join_tail]
        simp [Function.comp_def]
      · rw [if_neg hc, if_neg hc]
        rw [not_or] at hc
        cases hv : t.vars with
        | nil => exact absurd hv hc.2
        | cons v r =>
          unfold rfold
          rw [if_pos (by rw [ba_toList])]
          have hne : ((⟨#[]⟩ : ByteArray) ++ ⟨#[109]⟩ ++ numT v).data.toList ≠ [] := by rw [ba_append, ba_append]; simp
          rw [rfold_ne _ _ hne]
          simp only [List.nil_append, List.map_cons]
          rw [join_tail]
          unfold mname
          rw [ba_append, ba_append, ba_append]
          simp [Function.comp_def]
  · simp

end Go.Proofs.YtbccnfgceabopaaDoor
