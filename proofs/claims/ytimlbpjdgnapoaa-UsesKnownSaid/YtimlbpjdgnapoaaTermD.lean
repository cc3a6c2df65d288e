/- Contracts of slices.IndexFunc, ContainsFunc, Clone and DeleteFunc at terms; may. -/
import Derived.Test.YtimlbpjdgnapoaaTermA
import Derived.Test.YtimlbpjdgnapoaaTermC
namespace Go.Proofs.Ytimlbpjdgnapoaa
set_option linter.unusedVariables false
set_option linter.unusedSimpArgs false
open Go.RowKit

/-- a function of a term that answers whether p, and writes nothing that was there -/
def Enters (F : Nat) : Prop := ∀ (args : Array Value) (w : World), (callFunc F args).run Try.prog w = .ok (.enter F args) w
theorem enters_may : Enters 83 := fun args w => by kernel_rfl
theorem enters_join : Enters 72 := fun args w => by kernel_rfl
theorem enters_sum : Enters 74 := fun args w => by kernel_rfl
def Pred (F : Nat) (p : TermD → Bool) : Prop :=
  ∀ (A : Option Addr) (n c : Nat) (t : TermD) (w : World) (B : Nat), RdI .i64 w B A n c t.vars → B ≤ w.heap.size →
    Calls Try.prog F #[.agg #[.bool t.never, .int .u8 t.c, .slice A n c]] w fun e w' => e = .returned (.bool (p t)) ∧ Below w.heap.size w w'

theorem pred_may : Pred 83 (fun t => !mayB t) := by
  intro A n c t w B hr hB
  obtain ⟨nv, tc, vs⟩ := t
  have hbel : Below w.heap.size w (w.alloc (Obj.cells #[.bool nv, .int .u8 tc, .slice A n c] 37)) := (Below.refl _ _).alloc (Nat.le_refl _) _
  have hr1 : RdI .i64 (w.alloc (Obj.cells #[.bool nv, .int .u8 tc, .slice A n c] 37)) B A n c vs := hr.below ((Below.refl B w).alloc hB _)
  have hne : (mayE ⟨nv, tc, vs⟩ != 0) = !mayB ⟨nv, tc, vs⟩ := by
    cases h : mayB ⟨nv, tc, vs⟩
    · rw [mayE_no h]; rfl
    · rw [mayE_yes h]; rfl
  have Hne := Lib.hid hne
  clear hne
  go_enter Try.func83, Try.ntmps83
  go_wp2_with fail
  refine (may_any _ ⟨nv, tc, vs⟩ _ B ⟨A, n, c, rfl, hr1⟩ (by simp; omega)).mono ?_; rintro e w1 ⟨rfl, hb1⟩
  have hbel1 := hbel.trans (hb1.mono (by simp))
  clear hb1
  go_wp2_with fail
  go_ret
  exact ⟨ret_bool Hne.out, hbel1⟩

def idxF (p : TermD → Bool) (ts : List TermD) : Int := match ts.findIdx? p with
  | some i => (i : Int)
  | none => -1

theorem idxF_none {p : TermD → Bool} {ts : List TermD} (h : ∀ j (h : j < ts.length), p ts[j] = false) : idxF p ts = -1 := by
  have : ts.findIdx? p = none := by
    rw [List.findIdx?_eq_none_iff]
    intro x hx
    obtain ⟨j, hj, rfl⟩ := List.getElem_of_mem hx
    exact h j hj
  unfold idxF
  rw [this]
theorem idxF_some {p : TermD → Bool} {ts : List TermD} {k : Nat} (hk : k < ts.length) (h : ∀ j (h : j < ts.length), j < k → p ts[j] = false) (h1 : p ts[k] = true) : idxF p ts = k := by
  have : ts.findIdx? p = some k := by
    rw [List.findIdx?_eq_some_iff_getElem]
    exact ⟨hk, h1, fun j hj => by rw [h j (by omega) hj]; simp⟩
  unfold idxF
  rw [this]

set_option maxHeartbeats 1000000 in
theorem index_any (F : Nat) (p : TermD → Bool) (hf : Enters F) (hp : Pred F p) (A : Option Addr) (n c : Nat) (ts : List TermD) (w : World) (hr : TermsV w w.heap.size A n c ts) :
    Calls Try.prog 84 #[.slice A n c, .func (.func F) #[] #[]] w fun e w' => e = .returned (.int .i64 (idxF p ts)) ∧ Below w.heap.size w w' := by
  obtain ⟨hlen, hnc, hcm, hat⟩ := hr
  have Hlen := Lib.hid hlen
  have Hp := Lib.hid hp
  have Hat := Lib.hid hat
  clear hlen hp hat
  unfold maxLen at hcm
  unfold Enters at hf
  go_enter Try.func84, Try.ntmps84
  go_wp2_with fail
  go_loopg [5, 8] n (fun g _ i wr => ∃ k : Nat, k ≤ n ∧ g = n - k ∧ i = .int .i64 k ∧ (∀ j (h : j < ts.length), j < k → p ts[j] = false) ∧ Below w.heap.size w wr)
  case atStart => exact ⟨0, Nat.zero_le _, rfl, rfl, fun j _ h => absurd h (by omega), Below.refl _ _⟩
  case round =>
    obtain ⟨k, hk, rfl, rfl, hno, hbel⟩ := hrel
    have Hno := Lib.hid hno
    clear hno
    by_cases hlt : k < n
    · obtain ⟨b, off, rfl, hb, hcell⟩ := Hat.out (by omega)
      have hk' : k < ts.length := by rw [Hlen.out]; exact hlt
      have h1 := (hcell k hk').keep hb (fun q hq => hbel.cell hq)
      obtain ⟨A', n', c', e0, e1, e2, hr'⟩ := h1
      have Hr := Lib.hid hr'
      clear hr' hcell
      cases hpk : p ts[k]
      · have Hpk := Lib.hid hpk
        clear hpk
        go_wp2_with fail
        refine (Hp.out A' n' c' _ _ _ Hr.out hbel.size).mono ?_; rintro e w1 ⟨rfl, hb1⟩
        rw [Hpk.out]
        go_wp2_with fail
        go_roundg (n - (k + 1))
        case measure => omega
        case rel =>
          refine ⟨k + 1, by omega, rfl, by go_num, fun j hj hjk => ?_, stepB hbel hb1⟩
          rcases Nat.lt_or_ge j k with h | h
          · exact Hno.out j hj h
          · have : j = k := by omega
            subst this
            exact Hpk.out
      · have Hpk := Lib.hid hpk
        clear hpk
        have HF : Hid ((k : Int) = idxF p ts) := (idxF_some hk' Hno.out Hpk.out).symm
        go_wp2_with fail
        refine (Hp.out A' n' c' _ _ _ Hr.out hbel.size).mono ?_; rintro e w1 ⟨rfl, hb1⟩
        rw [Hpk.out]
        go_wp2_with fail
        go_ret
        exact ⟨ret_int HF.out, stepB hbel hb1⟩
    · have HF : Hid (-1 = idxF p ts) := (idxF_none (fun j hj => Hno.out j hj (by have := Hlen.out; omega))).symm
      go_wp2_with fail
      go_ret
      exact ⟨ret_int HF.out, hbel⟩

theorem contains_any (F : Nat) (p : TermD → Bool) (hf : Enters F) (hp : Pred F p) (A : Option Addr) (n c : Nat) (ts : List TermD) (w : World) (hr : TermsV w w.heap.size A n c ts) :
    Calls Try.prog 82 #[.slice A n c, .func (.func F) #[] #[]] w fun e w' => e = .returned (.bool (ts.any p)) ∧ Below w.heap.size w w' := by
  have hany : decide (0 ≤ idxF p ts) = ts.any p := by
    unfold idxF
    cases h : ts.findIdx? p with
    | none =>
      rw [List.findIdx?_eq_none_iff] at h
      have : ts.any p = false := by
        rw [List.any_eq_false]
        intro x hx
        rw [h x hx]; simp
      rw [this]; rfl
    | some k =>
      rw [List.findIdx?_eq_some_iff_getElem] at h
      obtain ⟨hk, h1, _⟩ := h
      have : ts.any p = true := List.any_eq_true.2 ⟨_, List.getElem_mem hk, h1⟩
      rw [this]; simp
  have Hany := Lib.hid hany
  clear hany
  go_enter Try.func82, Try.ntmps82
  go_wp2_with fail
  refine (index_any F p hf hp A n c ts _ hr).mono ?_; rintro e w1 ⟨rfl, hb1⟩
  go_wp2_with fail
  go_ret
  exact ⟨ret_bool Hany.out, hb1⟩

def allMay (ts : List TermD) : Bool := ts.all mayB
theorem mays_any (A : Option Addr) (n c : Nat) (ts : List TermD) (w : World) (hr : TermsV w w.heap.size A n c ts) :
    Calls Try.prog 69 #[.slice A n c] w fun e w' => e = .returned (.bool (allMay ts)) ∧ Below w.heap.size w w' := by
  have hH : (!ts.any fun t => !mayB t) = allMay ts := by
    unfold allMay
    rw [List.all_eq_not_any_not]
  have HH := Lib.hid hH
  clear hH
  go_enter Try.func69, Try.ntmps69
  go_wp2_with fail
  refine (contains_any _ _ enters_may pred_may A n c ts _ hr).mono ?_; rintro e w1 ⟨rfl, hb1⟩
  go_wp2_with fail
  go_ret
  exact ⟨ret_bool HH.out, hb1⟩

end Go.Proofs.Ytimlbpjdgnapoaa
