/- Texts of this claim, laid one behind the other: TwE, TwG, TwH, TwI, TwJ. -/
import Derived.Test.YtidamlkekgnhgaaDoorRefOT
import Derived.Test.YtidamlkekgnhgaaDoorLawE
import Derived.Deep.DrawnRows
import Derived.PlainAid
/- The texts of usufructref06: usufructref02.Digits; a text has a blank just if it is put in brackets. -/
namespace Go.Proofs.YtidamlkekgnhgaaDoor
set_option linter.unusedVariables false
set_option linter.unusedSimpArgs false
open Go.RowKit
attribute [local go_sem ↓] Go.wp_at_zero Go.wp_at_succ

/-! ### blanks -/
/-- no text of these has a blank -/
def NoBl (ws : List ByteArray) : Prop := ∀ x ∈ ws, (32 : UInt8) ∉ x.data.toList
theorem itoa_nobl {n : Int} (h : 0 ≤ n) : (32 : UInt8) ∉ Lib.itoa n := fun hc => by
  have := (itoa_mem h 32 hc).1
  revert this
  decide
theorem dataL_bl (ws : List ByteArray) (l : List TyD) : (32 : UInt8) ∈ txB.dataL ws l ↔ 0 < l.length := by
  cases l with
  | nil => rw [txB.dataL]; simp
  | cons x r => rw [txB.dataL]; simp
theorem head_nobl {ws : List ByteArray} (hw : NoBl ws) (k : Int) {n : Int} (h : 0 ≤ n) : (32 : UInt8) ∉ txHead ws k n := by
  unfold txHead
  split
  · decide
  · split
    · rename_i h6 hl
      have hi : n.toNat < ws.length := by omega
      rw [List.getD_eq_getElem?_getD, List.getElem?_eq_getElem hi]
      exact hw _ (List.getElem_mem hi)
    · intro hc
      rcases List.mem_cons.1 hc with e | e
      · revert e; decide
      · exact itoa_nobl h e
theorem blank_iff {ws : List ByteArray} (hw : NoBl ws) {t : TyD} (ht : mayT t = true) : (32 : UInt8) ∈ txB ws t ↔ txIn t = true := by
  have f := may_facts ht
  have hn := f.2.2.1
  have h7 : txIn t = true ↔ t.k = 7 ∨ (t.k ≥ 6 ∧ 0 < t.l.length) := by unfold txIn; simp
  rw [h7, txB_eq]
  split
  · rename_i e
    refine ⟨fun hc => ?_, fun h => by omega⟩
    rcases List.mem_cons.1 hc with e | e
    · exact absurd e (by decide)
    · exact absurd e (itoa_nobl hn)
  · split
    · exact ⟨fun hc => absurd hc (by decide), fun h => by omega⟩
    · split
      · exact ⟨fun hc => absurd hc (by decide), fun h => by omega⟩
      · split
        · exact ⟨fun hc => absurd hc (by decide), fun h => by omega⟩
        · split
          · exact ⟨fun hc => absurd hc (by decide), fun h => by omega⟩
          · split
            · rename_i e
              obtain ⟨a, b, hl⟩ := may_fun ht e
              refine ⟨fun _ => .inl e, fun _ => ?_⟩
              rw [hl, funL_two, txMark_eq]
              simp
            · rw [List.mem_append, dataL_bl]
              refine ⟨fun h => h.elim (fun h => absurd h (head_nobl hw _ hn)) fun h => .inr ⟨by omega, h⟩, fun h => .inr ?_⟩
              rcases h with h | h
              · omega
              · exact h.2

theorem ba_append (a b : ByteArray) : (a ++ b).data.toList = a.data.toList ++ b.data.toList := by simp
theorem ba_ext {a b : ByteArray} (h : a.data.toList = b.data.toList) : a = b := ByteArray.ext (Array.toList_inj.mp h)
/-! ### digits -/
theorem digits_small (n : Nat) (h : n < 10) (w : World) :
    Calls Tryd.prog 68 #[.int .i64 n] w fun e w' => e = .returned (.string ⟨(Lib.decDigits n).toArray⟩) ∧ w = w' := by
  rw [Lib.decDigits_one h]
  match n, h with
  | 0, _ =>
    go_enter Tryd.func68, Tryd.ntmps68
    go_wp2_with fail
    go_ret
    exact ⟨rfl, rfl⟩
  | 1, _ =>
    go_enter Tryd.func68, Tryd.ntmps68
    go_wp2_with fail
    go_ret
    exact ⟨rfl, rfl⟩
  | 2, _ =>
    go_enter Tryd.func68, Tryd.ntmps68
    go_wp2_with fail
    go_ret
    exact ⟨rfl, rfl⟩
  | 3, _ =>
    go_enter Tryd.func68, Tryd.ntmps68
    go_wp2_with fail
    go_ret
    exact ⟨rfl, rfl⟩
  | 4, _ =>
    go_enter Tryd.func68, Tryd.ntmps68
    go_wp2_with fail
    go_ret
    exact ⟨rfl, rfl⟩
  | 5, _ =>
    go_enter Tryd.func68, Tryd.ntmps68
    go_wp2_with fail
    go_ret
    exact ⟨rfl, rfl⟩
  | 6, _ =>
    go_enter Tryd.func68, Tryd.ntmps68
    go_wp2_with fail
    go_ret
    exact ⟨rfl, rfl⟩
  | 7, _ =>
    go_enter Tryd.func68, Tryd.ntmps68
    go_wp2_with fail
    go_ret
    exact ⟨rfl, rfl⟩
  | 8, _ =>
    go_enter Tryd.func68, Tryd.ntmps68
    go_wp2_with fail
    go_ret
    exact ⟨rfl, rfl⟩
  | 9, _ =>
    go_enter Tryd.func68, Tryd.ntmps68
    go_wp2_with fail
    go_ret
    exact ⟨rfl, rfl⟩
theorem bytes_append (a b : List UInt8) : (⟨a.toArray⟩ : ByteArray) ++ ⟨b.toArray⟩ = ⟨(a ++ b).toArray⟩ := by
  apply ByteArray.ext
  simp
theorem dec_len (n : Nat) (h : n ≤ 9223372036854775807) : (Lib.decDigits n).length ≤ 21 := by
  rw [← Lib.itoa_nonneg]
  exact Lib.itoa_length_le n (by omega) (by omega)
theorem digits_any : ∀ (n : Nat), n ≤ 9223372036854775807 → ∀ (w : World),
    Calls Tryd.prog 68 #[.int .i64 n] w fun e w' => e = .returned (.string ⟨(Lib.decDigits n).toArray⟩) ∧ w = w'
  | n, hn, w => by
    by_cases h : n < 10
    · exact digits_small n h w
    · have h1 := Lib.hid (digits_any (n / 10) (by omega))
      have h2 := Lib.hid (digits_small (n % 10) (by omega))
      have e : Lib.decDigits n = Lib.decDigits (n / 10) ++ Lib.decDigits (n % 10) := by
        rw [Lib.decDigits, dif_neg h, Lib.decDigits_one (i := n % 10) (by omega)]
      have He := Lib.hid e
      have d : decide ((n : Int) < 10) = false := by simp; omega
      clear e h
      go_enter Tryd.func68, Tryd.ntmps68
      go_wp2_with fail
      rw [show (n : Int) / 10 = ((n / 10 : Nat) : Int) from by omega]
      refine (h1.out w).mono ?_; rintro e w1 ⟨rfl, rfl⟩
      go_wp2_with fail
      rw [show (n : Int) % 10 = ((n % 10 : Nat) : Int) from by omega]
      refine (h2.out w).mono ?_; rintro e w1 ⟨rfl, rfl⟩
      have l1 : (Lib.decDigits (n / 10)).length ≤ 21 := dec_len _ (by omega)
      have l2 : (Lib.decDigits (n % 10)).length ≤ 21 := dec_len _ (by omega)
      generalize Lib.decDigits (n / 10) = L1 at He l1 ⊢
      generalize Lib.decDigits (n % 10) = L2 at He l2 ⊢
      go_wp2_with fail
      go_ret
      exact ⟨by rw [He.out, bytes_append]; rfl, rfl⟩
termination_by n => n
/-- the text of an integer at or above 0 -/
theorem digits_i {n : Int} (h0 : 0 ≤ n) (h1 : n ≤ 9223372036854775807) {S : ByteArray} (hS : (⟨(Lib.itoa n).toArray⟩ : ByteArray) = S) (w : World) :
    Calls Tryd.prog 68 #[.int .i64 n] w fun e w' => e = .returned (.string S) ∧ w = w' := by
  obtain ⟨x, rfl⟩ := Int.eq_ofNat_of_zero_le h0
  rw [Lib.itoa_nonneg] at hS
  rw [← hS]
  exact digits_any x (by omega) w

end Go.Proofs.YtidamlkekgnhgaaDoor

/- The contract of usufructref06.atom, from Text's. -/
namespace Go.Proofs.YtidamlkekgnhgaaDoor
set_option linter.unusedVariables false
set_option linter.unusedSimpArgs false
open Go.RowKit Go.PlainAid
attribute [local go_sem ↓] Go.wp_at_zero Go.wp_at_succ

/-- what the reference's Text tells of t -/
def TxOK (An : Option Addr) (nn cn : Nat) (ws : List ByteArray) (t : TyD) : Prop :=
  ∀ (S : ByteArray), (⟨(txB ws t).toArray⟩ : ByteArray) = S → ∀ (A : Option Addr) (m cp : Nat) (w : World), TysV w w.heap.size A m cp t.l → NmV w w.heap.size An nn cn ws →
    Calls Tryd.prog 40 #[.agg #[.int .u8 t.k, .int .i64 t.n, .int .i64 t.v, .int .u8 t.c, .slice A m cp], .slice An nn cn] w fun e w' => e = .returned (.string S) ∧ Below w.heap.size w w'
theorem bt_list {S : ByteArray} {L : List UInt8} (h : (⟨L.toArray⟩ : ByteArray) = S) {k : Nat} (hk : k < L.length) : bt S k = (L[k].toNat : Int) := by
  subst h
  have hs : k < (⟨L.toArray⟩ : ByteArray).size := by simpa [ByteArray.size] using hk
  unfold bt
  rw [dif_pos hs]
  rfl
theorem u8_32 (x : UInt8) : (x.toNat : Int) = 32 ↔ x = 32 := by
  refine ⟨fun h => ?_, fun h => by subst h; rfl⟩
  apply UInt8.toNat_inj.1
  have : x.toNat = 32 := by omega
  rw [this]; rfl
set_option maxRecDepth 100000 in
set_option maxHeartbeats 1000000 in
theorem refAtom_of {An : Option Addr} {nn cn : Nat} {ws : List ByteArray} {t : TyD} (hp : TxOK An nn cn ws t) (hw : NoBl ws) (hm : mayT t = true) (hlen : (txB ws t).length ≤ 1099511627776) {R : ByteArray} (hR : (⟨(txPar (txIn t) (txB ws t)).toArray⟩ : ByteArray) = R) (A : Option Addr) (m cp : Nat) (w : World) (hl : TysV w w.heap.size A m cp t.l) (hn : NmV w w.heap.size An nn cn ws) :
    Calls Tryd.prog 69 #[.agg #[.int .u8 t.k, .int .i64 t.n, .int .i64 t.v, .int .u8 t.c, .slice A m cp], .slice An nn cn] w fun e w' => e = .returned (.string R) ∧ Below w.heap.size w w' := by
  obtain ⟨W, hW⟩ : ∃ W, w.alloc (Obj.cells #[.int .u8 t.k, .int .i64 t.n, .int .i64 t.v, .int .u8 t.c, .slice A m cp] 27) = W := ⟨_, rfl⟩
  have hbx := below_box (w := w) (Obj.cells #[.int .u8 t.k, .int .i64 t.n, .int .i64 t.v, .int .u8 t.c, .slice A m cp] 27)
  rw [hW] at hbx
  have hbl := blank_iff hw hm
  obtain ⟨S, hS⟩ : ∃ S, (⟨(txB ws t).toArray⟩ : ByteArray) = S := ⟨_, rfl⟩
  have Hq := Lib.hid (hp S hS A m cp W (TysV.fresh hl hbx) ((hn.below hbx).more hbx.size))
  obtain ⟨L, hL⟩ : ∃ L, txB ws t = L := ⟨_, rfl⟩
  rw [hL] at hbl hlen hR hS
  have hsz : S.size = L.length := by rw [← hS]; rfl
  have Hbt := Lib.hid (fun (k : Nat) (hk : k < L.length) => bt_list hS hk)
  have Hgb := Lib.hid (get_bt S)
  have HS := Lib.hid hS
  have HR := Lib.hid hR
  have Hbl := Lib.hid hbl
  have HW := Lib.hid hW
  have Hbx := Lib.hid hbx
  have Ht : Hid (t = t) := Lib.hid rfl
  clear hW hbx hbl hS hR hL hp hl hn hm
  go_enter Tryd.func69, Tryd.ntmps69
  go_wp2_with fail
  rw [HW.out]
  refine Hq.out.mono ?_
  rintro e w1 ⟨rfl, hb1⟩
  have Hb := Lib.hid (Hbx.out.trans (hb1.mono Hbx.out.size))
  clear hb1 Hq
  go_wp2_with fail
  go_loopg [6] L.length (fun gh i wr => ∃ k : Nat, k ≤ L.length ∧ gh = L.length - k ∧ i = .int .i64 k ∧ wr = w1 ∧ ∀ j (h : j < L.length), j < k → L[j] ≠ 32)
  case atStart => exact ⟨0, Nat.zero_le _, rfl, rfl, rfl, fun j _ hj => absurd hj (by omega)⟩
  case round =>
    obtain ⟨k, hk, rfl, rfl, rfl, hb⟩ := hrel
    by_cases hkm : k < L.length
    · have d0 : decide ((k : Int) < S.size) = true := by rw [hsz]; simpa using hkm
      have hgb := Hgb.out
      have k1 : (0 : Int) ≤ (k : Int) := by omega
      have k2 : (k : Int) < (S.size : Int) := by omega
      have k3 : k < S.size := by omega
      have Hb2 := Lib.hid hb
      clear hb
      by_cases hx : L[k] = 32
      · have d1 : (bt S k == 32) = true := by rw [Hbt.out k hkm, hx]; rfl
        have HF : Hid ((⟨#[40]⟩ : ByteArray) ++ S ++ ⟨#[41]⟩ = R) := Lib.hid (by
          rw [← HR.out, ← HS.out, Hbl.out.1 (by rw [← hx]; exact List.getElem_mem hkm)]
          exact ba_ext (by rw [ba_append, ba_append]; simp [txPar]))
        have hsb : S.size ≤ 1099511627776 := by omega
        clear hx
        go_wp2_with fail
        go_ret
        exact ⟨by rw [← HF.out]; rfl, Hb.out⟩
      · have d1 : (bt S k == 32) = false := by
          rw [Hbt.out k hkm]
          simp only [beq_eq_false_iff_ne, ne_eq]
          exact fun e => hx ((u8_32 _).1 e)
        have Hn : Hid (∀ j (h : j < L.length), j < k + 1 → L[j] ≠ 32) := Lib.hid fun j hj hjk => by
          rcases Nat.lt_or_ge j k with h | h
          · exact Hb2.out j hj h
          · obtain rfl : j = k := by omega
            exact hx
        clear hx
        go_wp2_with fail
        go_roundg (L.length - (k + 1))
        case measure => omega
        case rel => exact ⟨k + 1, by omega, rfl, by go_num, rfl, Hn.out⟩
    · have d0 : decide ((k : Int) < S.size) = false := by rw [hsz]; simpa using hkm
      have HF : Hid (S = R) := Lib.hid (by
        have hf : txIn t = false := by
          rw [Bool.eq_false_iff]
          intro h
          obtain ⟨i, hi, e⟩ := List.getElem_of_mem (Hbl.out.2 h)
          exact hb i hi (by omega) e
        rw [← HR.out, hf, ← HS.out]
        rfl)
      clear hb
      go_wp2_with fail
      go_ret
      exact ⟨by rw [← HF.out]; rfl, Hb.out⟩
end Go.Proofs.YtidamlkekgnhgaaDoor

/- The contract of usufructref06.Text. -/
namespace Go.Proofs.YtidamlkekgnhgaaDoor
set_option linter.unusedVariables false
set_option linter.unusedSimpArgs false
open Go.RowKit
attribute [local go_sem ↓] Go.wp_at_zero Go.wp_at_succ

theorem rtext_mt {c : Int} (h : c = 1 ∨ c = 2 ∨ c = 3) : rtext c = mtext c := by
  rcases h with rfl | rfl | rfl <;> rfl
theorem rtext_any {c : Int} (h : c = 1 ∨ c = 2 ∨ c = 3) {S : ByteArray} (hS : mtext c = S) (w : World) :
    Calls Tryd.prog 70 #[.int .u8 c] w fun e w' => e = .returned (.string S) ∧ w = w' := by
  rw [← hS, ← rtext_mt h]
  exact refText_any c w
/-- the box of a type -/
structure TBox (t : TyD) (A : Option Addr) (m cp : Nat) (w W : World) : Prop where
  eq : w.alloc (Obj.cells #[.int .u8 t.k, .int .i64 t.n, .int .i64 t.v, .int .u8 t.c, .slice A m cp] 27) = W
  bel : Below w.heap.size w W
  bt : Blk W w.heap.size 27 #[.int .u8 t.k, .int .i64 t.n, .int .i64 t.v, .int .u8 t.c, .slice A m cp]
theorem tbox_new (t : TyD) (A : Option Addr) (m cp : Nat) (w : World) : ∃ W, TBox t A m cp w W :=
  ⟨_, rfl, below_box _, blk_new w _ _⟩
set_option maxRecDepth 100000 in
set_option maxHeartbeats 2000000 in
theorem refText_leaf {An : Option Addr} {nn cn : Nat} {ws : List ByteArray} {t : TyD} (hm : mayT t = true) (hk : t.k < 6) : TxOK An nn cn ws t := by
  intro S hS A m cp w hl hn
  obtain ⟨W, hB⟩ := tbox_new t A m cp w
  have f := may_facts hm
  have hn0 := f.2.2.1
  have hr := mayT_range hm
  have hk1 := f.1
  rw [txB_eq] at hS
  have hbx := hB.bel
  have Heq := Lib.hid hB.eq
  have Hbx := Lib.hid hB.bel
  have Hz := Lib.hid hB.bt
  have HL := Lib.hid (TysV.fresh hl hbx)
  have HNm := Lib.hid ((hn.below hbx).more hbx.size)
  have hlen := hl.len
  have m63 : m ≤ 9223372036854775807 := Nat.le_trans hl.2.1 hl.2.2.1
  have n63 : nn ≤ 9223372036854775807 := Nat.le_trans hn.2.1 hn.2.2
  have hnl := hn.len
  clear hbx hB hl hn
  by_cases h1 : t.k = 1
  · have d1 : (t.k == 1) = true := by simp [h1]
    obtain ⟨S1, hS1⟩ : ∃ S, (⟨(Lib.itoa t.n).toArray⟩ : ByteArray) = S := ⟨_, rfl⟩
    have hs1 : S1.size ≤ 21 := by rw [← hS1]; exact Lib.itoa_length_le t.n (by omega) (by omega)
    have HF : Hid ((⟨#[97]⟩ : ByteArray) ++ S1 = S) := Lib.hid (by rw [← hS, if_pos h1, ← hS1]; exact ba_ext (by rw [ba_append]; simp))
    have Hd := Lib.hid (fun w => digits_i (n := t.n) (by omega) (by omega) hS1 w)
    clear hS hS1 h1 f
    go_enter Tryd.func40, Tryd.ntmps40
    go_wp2_with fail
    refine (Hd.out _).mono ?_; rintro e w1 ⟨rfl, rfl⟩
    go_wp2_with fail
    rw [Heq.out]
    go_ret
    exact ⟨by rw [← HF.out]; rfl, Hbx.out⟩
  have d1 : (t.k == 1) = false := by simpa using h1
  rw [if_neg h1] at hS
  by_cases h2 : t.k = 2
  · have d2 : (t.k == 2) = true := by simp [h2]
    rw [if_pos h2] at hS
    have HF := Lib.hid hS
    clear hS h2 f
    go_enter Tryd.func40, Tryd.ntmps40
    go_wp2_with fail
    rw [Heq.out]
    go_ret
    exact ⟨by rw [← HF.out]; rfl, Hbx.out⟩
  have d2 : (t.k == 2) = false := by simpa using h2
  rw [if_neg h2] at hS
  by_cases h3 : t.k = 3
  · have d3 : (t.k == 3) = true := by simp [h3]
    rw [if_pos h3] at hS
    have HF := Lib.hid hS
    clear hS h3 f
    go_enter Tryd.func40, Tryd.ntmps40
    go_wp2_with fail
    rw [Heq.out]
    go_ret
    exact ⟨by rw [← HF.out]; rfl, Hbx.out⟩
  have d3 : (t.k == 3) = false := by simpa using h3
  rw [if_neg h3] at hS
  by_cases h4 : t.k = 4
  · have d4 : (t.k == 4) = true := by simp [h4]
    rw [if_pos h4] at hS
    have HF := Lib.hid hS
    clear hS h4 f
    go_enter Tryd.func40, Tryd.ntmps40
    go_wp2_with fail
    rw [Heq.out]
    go_ret
    exact ⟨by rw [← HF.out]; rfl, Hbx.out⟩
  have d4 : (t.k == 4) = false := by simpa using h4
  rw [if_neg h4] at hS
  by_cases h5 : t.k = 5
  · have d5 : (t.k == 5) = true := by simp [h5]
    rw [if_pos h5] at hS
    have HF := Lib.hid hS
    clear hS h5 f
    go_enter Tryd.func40, Tryd.ntmps40
    go_wp2_with fail
    rw [Heq.out]
    go_ret
    exact ⟨by rw [← HF.out]; rfl, Hbx.out⟩
  have d5 : (t.k == 5) = false := by simpa using h5
  rw [if_neg h5] at hS
  omega
end Go.Proofs.YtidamlkekgnhgaaDoor

/- The contract of usufructref06.Text: arrays, functions, data. -/
namespace Go.Proofs.YtidamlkekgnhgaaDoor
set_option linter.unusedVariables false
set_option linter.unusedSimpArgs false
open Go.RowKit
attribute [local go_sem ↓] Go.wp_at_zero Go.wp_at_succ

theorem may_arr {t : TyD} (h : mayT t = true) (hk : t.k = 6) : ∃ a, t.l = [a] := by
  have f := may_facts h
  have hk0 : kidsI t.k = 1 := by rw [hk]; rfl
  have := f.2.2.2.2.1 (by omega)
  rw [hk0] at this
  match hl : t.l, this with
  | [a], _ => exact ⟨a, rfl⟩
  | [], h => simp at h
  | _ :: _ :: _, h => simp at h; omega
theorem par_ge (b : Bool) (s : List UInt8) : s.length ≤ (txPar b s).length := by
  unfold txPar
  split
  · simp only [List.length_cons, List.length_append]; omega
  · exact Nat.le_refl _
set_option maxRecDepth 100000 in
set_option maxHeartbeats 2000000 in
theorem refText_arr {An : Option Addr} {nn cn : Nat} {ws : List ByteArray} (hw : NoBl ws) {t : TyD} (hm : mayT t = true) (hk : t.k = 6) (hlen0 : (txB ws t).length ≤ 1099511627776) (ih : ∀ x ∈ t.l, TxOK An nn cn ws x) : TxOK An nn cn ws t := by
  intro S hS A m cp w hl hn
  obtain ⟨W, hB⟩ := tbox_new t A m cp w
  obtain ⟨x, hx⟩ := may_arr hm hk
  have hmx := (may_facts hm).2.2.2.2.2.2 x (by rw [hx]; simp)
  have hix := ih x (by rw [hx]; simp)
  have htx : txB ws t = [65, 114, 114] ++ (32 :: txPar (txIn x) (txB ws x)) := by
    rw [txB_eq, if_neg (by omega), if_neg (by omega), if_neg (by omega), if_neg (by omega), if_neg (by omega), if_neg (by omega), hx, txB.dataL, txB.dataL, List.append_nil]
    unfold txHead
    rw [if_pos hk]
  rw [htx] at hS hlen0
  have hp := par_ge (txIn x) (txB ws x)
  simp only [List.length_append, List.length_cons, List.length_nil] at hlen0
  have hbx := hB.bel
  have Heq := Lib.hid hB.eq
  have Hbx := Lib.hid hB.bel
  have Hz := Lib.hid hB.bt
  have HL := Lib.hid (TysV.fresh hl hbx)
  have HNm := Lib.hid ((hn.below hbx).more hbx.size)
  have hlen := hl.len
  have m63 : m ≤ 9223372036854775807 := Nat.le_trans hl.2.1 hl.2.2.1
  have n63 : nn ≤ 9223372036854775807 := Nat.le_trans hn.2.1 hn.2.2
  have hnl := hn.len
  clear hbx hB hl hn
  have hm1 : m = 1 := by rw [hx] at hlen; simpa using hlen.symm
  subst hm1
  have d1 : (t.k == 1) = false := by simp [hk]
  have d2 : (t.k == 2) = false := by simp [hk]
  have d3 : (t.k == 3) = false := by simp [hk]
  have d4 : (t.k == 4) = false := by simp [hk]
  have d5 : (t.k == 5) = false := by simp [hk]
  have d6 : (t.k == 6) = true := by simp [hk]
  obtain ⟨R, hR⟩ : ∃ R, (⟨(txPar (txIn x) (txB ws x)).toArray⟩ : ByteArray) = R := ⟨_, rfl⟩
  have hsR : R.size ≤ 1099511627776 := by
    rw [← hR]
    show (txPar (txIn x) (txB ws x)).length ≤ _
    omega
  have HF : Hid ((⟨#[65, 114, 114, 32]⟩ : ByteArray) ++ R = S) := Lib.hid (by rw [← hS, ← hR]; exact ba_ext (by rw [ba_append]; simp))
  obtain ⟨b, off, rfl, hb, hc⟩ := HL.out.at_ (by omega)
  obtain ⟨e0, e1, e2, e3, Ax, mx, cx, e4, hxl⟩ := tyAt_iff.1 (hc 0 (by rw [hx]; simp))
  have hx0 : t.l[0]'(by rw [hx]; simp) = x := by simp [hx]
  rw [hx0] at e0 e1 e2 e3 hxl
  have Hq := Lib.hid (refAtom_of hix hw hmx (by omega) hR Ax mx cx W hxl HNm.out)
  simp only [Nat.zero_mul, Nat.add_zero] at e0 e1 e2 e3 e4
  rw [← Heq.out] at e0 e1 e2 e3 e4
  clear hS hlen0 hp hR hc hxl hx0 hix hmx htx hx hk hm
  go_enter Tryd.func40, Tryd.ntmps40
  go_wp2_with fail
  rw [Heq.out]
  refine Hq.out.mono ?_; rintro e w1 ⟨rfl, hb1⟩
  go_wp2_with fail
  go_ret
  exact ⟨by rw [← HF.out]; rfl, Hbx.out.trans (hb1.mono Hbx.out.size)⟩
set_option maxRecDepth 100000 in
set_option maxHeartbeats 4000000 in
theorem refText_data {An : Option Addr} {nn cn : Nat} {ws : List ByteArray} (hw : NoBl ws) {t : TyD} (hm : mayT t = true) (hk : t.k = 8) (hlen0 : (txB ws t).length ≤ 1099511627776) (ih : ∀ x ∈ t.l, TxOK An nn cn ws x) : TxOK An nn cn ws t := by
  intro S hS A m cp w hl hn
  obtain ⟨W, hB⟩ := tbox_new t A m cp w
  have htx : txB ws t = txHead ws t.k t.n ++ txB.dataL ws t.l := by
    rw [txB_eq, if_neg (by omega), if_neg (by omega), if_neg (by omega), if_neg (by omega), if_neg (by omega), if_neg (by omega)]
  have hr := mayT_range hm
  rw [htx] at hS hlen0
  rw [List.length_append] at hlen0
  have hbx := hB.bel
  have Heq := Lib.hid hB.eq
  have Hbx := Lib.hid hB.bel
  have Hz := Lib.hid hB.bt
  have HL := Lib.hid (TysV.fresh hl hbx)
  have HNm := Lib.hid ((hn.below hbx).more hbx.size)
  have hlen := hl.len
  have m63 : m ≤ 9223372036854775807 := Nat.le_trans hl.2.1 hl.2.2.1
  have n63 : nn ≤ 9223372036854775807 := Nat.le_trans hn.2.1 hn.2.2
  have hnl := hn.len
  clear hbx hB hl hn
  have Htot := Lib.hid hlen0
  have HS := Lib.hid hS
  have HM := Lib.hid hm
  have Hih := Lib.hid ih
  have Hw := Lib.hid hw
  have d1 : (t.k == 1) = false := by simp [hk]
  have d2 : (t.k == 2) = false := by simp [hk]
  have d3 : (t.k == 3) = false := by simp [hk]
  have d4 : (t.k == 4) = false := by simp [hk]
  have d5 : (t.k == 5) = false := by simp [hk]
  have d6 : (t.k == 6) = false := by simp [hk]
  have d7 : (t.k == 7) = false := by simp [hk]
  obtain ⟨S1, hS1⟩ : ∃ S, (⟨(Lib.itoa t.n).toArray⟩ : ByteArray) = S := ⟨_, rfl⟩
  have hs1 : S1.size ≤ 21 := by rw [← hS1]; exact Lib.itoa_length_le t.n (by omega) (by omega)
  have Hd := Lib.hid (fun w => digits_i (n := t.n) (by omega) (by omega) hS1 w)
  have hn0 := hr.1
  by_cases hnn : t.n < nn
  · have dn : decide (t.n < nn) = true := by simpa using hnn
    obtain ⟨bn, on, rfl, hcn⟩ := HNm.out.cells (by omega)
    have e0 := hcn t.n.toNat (by omega)
    have hK0 : (⟨(txHead ws t.k t.n).toArray⟩ : ByteArray) = ws.getD t.n.toNat ByteArray.empty := by
      unfold txHead
      rw [if_neg (by omega), if_pos (by omega)]
    obtain ⟨S0, hS0⟩ : ∃ S, ws.getD t.n.toNat ByteArray.empty = S := ⟨_, rfl⟩
    rw [hS0] at hK0 e0
    rw [← Heq.out] at e0
    clear hS hlen0 hS1 hS0 hcn htx hk hm ih hw hr
    go_enter Tryd.func40, Tryd.ntmps40
    go_wp2_with fail
    refine (Hd.out _).mono ?_; rintro e w1 ⟨rfl, rfl⟩
    go_wp2_with fail
    rw [Heq.out]
    clear e0
    have HK0 : Hid ((⟨(txHead ws t.k t.n).toArray⟩ : ByteArray) = S0) := Lib.hid hK0
    clear hK0
    go_loopg [7, 8] m (fun gh s i wr => ∃ (k : Nat) (X : ByteArray), k ≤ m ∧ gh = m - k ∧ i = .int .i64 k ∧ s = .string X ∧ (⟨(txHead ws t.k t.n ++ txB.dataL ws (t.l.take k)).toArray⟩ : ByteArray) = X ∧ Below W.heap.size W wr)
    case atStart => exact ⟨0, S0, Nat.zero_le _, rfl, rfl, rfl, by rw [← HK0.out]; simp [txB.dataL], Below.refl _ _⟩
    case round =>
      obtain ⟨k, X, hk, rfl, rfl, rfl, hX, hbel⟩ := hrel
      have hzr := Hz.out.below hbel Hz.out.lt
      have z3 := hzr.cell 4
      by_cases hkm : k < m
      · have d0 : decide (k < m) = true := by simpa using hkm
        have hk' : k < t.l.length := by omega
        obtain ⟨b, off, rfl, hb, hc⟩ := (TysV.fresh HL.out hbel).at_ (by omega)
        obtain ⟨e0, e1, e2, e3, Ax, mx, cx, e4, hxl⟩ := tyAt_iff.1 (hc k hk')
        have hmx := (may_facts HM.out).2.2.2.2.2.2 t.l[k] (List.getElem_mem hk')
        have hix := Hih.out t.l[k] (List.getElem_mem hk')
        have hst := dataL_step ws t.l k hk'
        have hle := dataL_le ws t.l (k + 1)
        obtain ⟨x, hx⟩ : ∃ x, t.l[k] = x := ⟨_, rfl⟩
        rw [hx] at e0 e1 e2 e3 hxl hmx hix hst
        have hp := par_ge (txIn x) (txB ws x)
        have htot := Htot.out
        rw [hst, List.length_append, List.length_cons] at hle
        obtain ⟨R, hR⟩ : ∃ R, (⟨(txPar (txIn x) (txB ws x)).toArray⟩ : ByteArray) = R := ⟨_, rfl⟩
        have hsR : R.size = (txPar (txIn x) (txB ws x)).length := by rw [← hR]; rfl
        have hsX : X.size = (txHead ws t.k t.n).length + (txB.dataL ws (t.l.take k)).length := by rw [← hX, ← List.length_append]; rfl
        have HF : Hid ((⟨(txHead ws t.k t.n ++ txB.dataL ws (t.l.take (k + 1))).toArray⟩ : ByteArray) = X ++ ⟨#[32]⟩ ++ R) := Lib.hid (by
          rw [hst, ← hX, ← hR]
          exact ba_ext (by rw [ba_append, ba_append]; simp))
        have Hq := Lib.hid (refAtom_of hix Hw.out hmx (by omega) hR Ax mx cx wr hxl ((HNm.out.below hbel).more hbel.size))
        have h1 : X.size ≤ 1099511627776 := by omega
        have h2 : R.size ≤ 1099511627776 := by omega
        have Hbel := Lib.hid hbel
        have k1 : (0 : Int) ≤ (k : Int) := by omega
        have k2 : (k : Int) < m := by omega
        clear hX hbel hc hxl hmx hix hst hle hx hp htot hR hsR hsX hzr
        go_wp2_with fail
        refine Hq.out.mono ?_; rintro e w1 ⟨rfl, hb1⟩
        go_wp2_with fail
        go_roundg (m - (k + 1))
        case measure => omega
        case rel => exact ⟨k + 1, X ++ ⟨#[32]⟩ ++ R, by omega, rfl, by go_num, rfl, HF.out, Hbel.out.trans (hb1.mono Hbel.out.size)⟩
      · have d0 : decide (k < m) = false := by simpa using hkm
        have hall : t.l.take k = t.l := List.take_of_length_le (by omega)
        have HF : Hid (X = S) := Lib.hid (by rw [← hX, ← HS.out, hall])
        have Hbel := Lib.hid (Hbx.out.trans (hbel.mono Hbx.out.size))
        clear hX hbel hzr hall
        go_wp2_with fail
        go_ret
        exact ⟨by rw [← HF.out]; rfl, Hbel.out⟩
  · have dn : decide (t.n < nn) = false := by simpa using hnn
    have hK0 : (⟨(txHead ws t.k t.n).toArray⟩ : ByteArray) = ⟨#[35]⟩ ++ S1 := by
      unfold txHead
      rw [if_neg (by omega), if_neg (by omega), ← hS1]
      exact ba_ext (by rw [ba_append]; simp)
    clear hS hlen0 hS1 htx hk hm ih hw hr
    go_enter Tryd.func40, Tryd.ntmps40
    go_wp2_with fail
    refine (Hd.out _).mono ?_; rintro e w1 ⟨rfl, rfl⟩
    go_wp2_with fail
    rw [Heq.out]
    have HK0 : Hid ((⟨(txHead ws t.k t.n).toArray⟩ : ByteArray) = ⟨#[35]⟩ ++ S1) := Lib.hid hK0
    clear hK0
    go_loopg [7, 8] m (fun gh s i wr => ∃ (k : Nat) (X : ByteArray), k ≤ m ∧ gh = m - k ∧ i = .int .i64 k ∧ s = .string X ∧ (⟨(txHead ws t.k t.n ++ txB.dataL ws (t.l.take k)).toArray⟩ : ByteArray) = X ∧ Below W.heap.size W wr)
    case atStart => exact ⟨0, ⟨#[35]⟩ ++ S1, Nat.zero_le _, rfl, rfl, rfl, by rw [← HK0.out]; simp [txB.dataL], Below.refl _ _⟩
    case round =>
      obtain ⟨k, X, hk, rfl, rfl, rfl, hX, hbel⟩ := hrel
      have hzr := Hz.out.below hbel Hz.out.lt
      have z3 := hzr.cell 4
      by_cases hkm : k < m
      · have d0 : decide (k < m) = true := by simpa using hkm
        have hk' : k < t.l.length := by omega
        obtain ⟨b, off, rfl, hb, hc⟩ := (TysV.fresh HL.out hbel).at_ (by omega)
        obtain ⟨e0, e1, e2, e3, Ax, mx, cx, e4, hxl⟩ := tyAt_iff.1 (hc k hk')
        have hmx := (may_facts HM.out).2.2.2.2.2.2 t.l[k] (List.getElem_mem hk')
        have hix := Hih.out t.l[k] (List.getElem_mem hk')
        have hst := dataL_step ws t.l k hk'
        have hle := dataL_le ws t.l (k + 1)
        obtain ⟨x, hx⟩ : ∃ x, t.l[k] = x := ⟨_, rfl⟩
        rw [hx] at e0 e1 e2 e3 hxl hmx hix hst
        have hp := par_ge (txIn x) (txB ws x)
        have htot := Htot.out
        rw [hst, List.length_append, List.length_cons] at hle
        obtain ⟨R, hR⟩ : ∃ R, (⟨(txPar (txIn x) (txB ws x)).toArray⟩ : ByteArray) = R := ⟨_, rfl⟩
        have hsR : R.size = (txPar (txIn x) (txB ws x)).length := by rw [← hR]; rfl
        have hsX : X.size = (txHead ws t.k t.n).length + (txB.dataL ws (t.l.take k)).length := by rw [← hX, ← List.length_append]; rfl
        have HF : Hid ((⟨(txHead ws t.k t.n ++ txB.dataL ws (t.l.take (k + 1))).toArray⟩ : ByteArray) = X ++ ⟨#[32]⟩ ++ R) := Lib.hid (by
          rw [hst, ← hX, ← hR]
          exact ba_ext (by rw [ba_append, ba_append]; simp))
        have Hq := Lib.hid (refAtom_of hix Hw.out hmx (by omega) hR Ax mx cx wr hxl ((HNm.out.below hbel).more hbel.size))
        have h1 : X.size ≤ 1099511627776 := by omega
        have h2 : R.size ≤ 1099511627776 := by omega
        have Hbel := Lib.hid hbel
        have k1 : (0 : Int) ≤ (k : Int) := by omega
        have k2 : (k : Int) < m := by omega
        clear hX hbel hc hxl hmx hix hst hle hx hp htot hR hsR hsX hzr
        go_wp2_with fail
        refine Hq.out.mono ?_; rintro e w1 ⟨rfl, hb1⟩
        go_wp2_with fail
        go_roundg (m - (k + 1))
        case measure => omega
        case rel => exact ⟨k + 1, X ++ ⟨#[32]⟩ ++ R, by omega, rfl, by go_num, rfl, HF.out, Hbel.out.trans (hb1.mono Hbel.out.size)⟩
      · have d0 : decide (k < m) = false := by simpa using hkm
        have hall : t.l.take k = t.l := List.take_of_length_le (by omega)
        have HF : Hid (X = S) := Lib.hid (by rw [← hX, ← HS.out, hall])
        have Hbel := Lib.hid (Hbx.out.trans (hbel.mono Hbx.out.size))
        clear hX hbel hzr hall
        go_wp2_with fail
        go_ret
        exact ⟨by rw [← HF.out]; rfl, Hbel.out⟩
end Go.Proofs.YtidamlkekgnhgaaDoor

/- The contract of usufructref06.Text: functions, and any type that may be. -/
namespace Go.Proofs.YtidamlkekgnhgaaDoor
set_option linter.unusedVariables false
set_option linter.unusedSimpArgs false
open Go.RowKit
attribute [local go_sem ↓] Go.wp_at_zero Go.wp_at_succ

set_option maxRecDepth 100000 in
set_option maxHeartbeats 4000000 in
theorem refText_fun {An : Option Addr} {nn cn : Nat} {ws : List ByteArray} {t : TyD} (hm : mayT t = true) (hk : t.k = 7) (hlen0 : (txB ws t).length ≤ 1099511627776) (ih : ∀ x ∈ t.l, TxOK An nn cn ws x) : TxOK An nn cn ws t := by
  intro S hS A m cp w hl hn
  obtain ⟨W, hB⟩ := tbox_new t A m cp w
  obtain ⟨a, b, hx⟩ := may_fun hm hk
  have hia := ih a (by rw [hx]; simp)
  have hib := ih b (by rw [hx]; simp)
  have hmu := isB_cases (may_mu hm)
  have hv : 0 ≤ t.v ∧ t.v < 1048576 := by
    have h := may_mu hm
    unfold isB oneB at h
    simp only [Bool.or_eq_true, Bool.and_eq_true, beq_iff_eq, decide_eq_true_eq] at h
    omega
  have htx : txB ws t = txPar (a.k == 7) (txB ws a) ++ (32 :: 45 :: (mbody t.v t.c ++ 62 :: 32 :: txB ws b)) := by
    rw [txB_eq, if_neg (by omega), if_neg (by omega), if_neg (by omega), if_neg (by omega), if_neg (by omega), if_pos hk, hx, funL_two, txMark_eq]
    simp
  rw [htx] at hS hlen0
  have hp := par_ge (a.k == 7) (txB ws a)
  simp only [List.length_append, List.length_cons] at hlen0
  have hbx := hB.bel
  have Heq := Lib.hid hB.eq
  have Hbx := Lib.hid hB.bel
  have Hz := Lib.hid hB.bt
  have HL := Lib.hid (TysV.fresh hl hbx)
  have HNm := Lib.hid ((hn.below hbx).more hbx.size)
  have hlen := hl.len
  have m63 : m ≤ 9223372036854775807 := Nat.le_trans hl.2.1 hl.2.2.1
  have n63 : nn ≤ 9223372036854775807 := Nat.le_trans hn.2.1 hn.2.2
  have hnl := hn.len
  clear hbx hB hl hn
  have hm2 : m = 2 := by rw [hx] at hlen; simpa using hlen.symm
  subst hm2
  have d1 : (t.k == 1) = false := by simp [hk]
  have d2 : (t.k == 2) = false := by simp [hk]
  have d3 : (t.k == 3) = false := by simp [hk]
  have d4 : (t.k == 4) = false := by simp [hk]
  have d5 : (t.k == 5) = false := by simp [hk]
  have d6 : (t.k == 6) = false := by simp [hk]
  have d7 : (t.k == 7) = true := by simp [hk]
  obtain ⟨Sa, hSa⟩ : ∃ S, (⟨(txB ws a).toArray⟩ : ByteArray) = S := ⟨_, rfl⟩
  obtain ⟨Sb, hSb⟩ : ∃ S, (⟨(txB ws b).toArray⟩ : ByteArray) = S := ⟨_, rfl⟩
  have hsa : Sa.size ≤ 1099511627776 := by
    rw [← hSa]
    show (txB ws a).length ≤ _
    omega
  have hsb : Sb.size ≤ 1099511627776 := by
    rw [← hSb]
    show (txB ws b).length ≤ _
    omega
  obtain ⟨S1, hS1⟩ : ∃ S, (⟨(Lib.itoa t.v).toArray⟩ : ByteArray) = S := ⟨_, rfl⟩
  have hs1 : S1.size ≤ 21 := by rw [← hS1]; exact Lib.itoa_length_le t.v (by omega) (by omega)
  have Hd := Lib.hid (fun w => digits_i (n := t.v) (by omega) (by omega) hS1 w)
  obtain ⟨b0, off, rfl, hb, hc⟩ := HL.out.at_ (by omega)
  obtain ⟨ea0, ea1, ea2, ea3, Aa, ma, ca, ea4, hal⟩ := tyAt_iff.1 (hc 0 (by rw [hx]; simp))
  obtain ⟨eb0, eb1, eb2, eb3, Ab, mb, cb, eb4, hbl⟩ := tyAt_iff.1 (hc 1 (by rw [hx]; simp))
  have hx0 : t.l[0]'(by rw [hx]; simp) = a := by simp [hx]
  have hx1 : t.l[1]'(by rw [hx]; simp) = b := by simp [hx]
  rw [hx0] at ea0 ea1 ea2 ea3 hal
  rw [hx1] at eb0 eb1 eb2 eb3 hbl
  have Hqa := Lib.hid (hia Sa hSa Aa ma ca W hal HNm.out)
  have HLb := Lib.hid hbl
  have Hib := Lib.hid hib
  simp only [Nat.zero_mul, Nat.add_zero, Nat.one_mul] at ea0 ea1 ea2 ea3 ea4 eb0 eb1 eb2 eb3 eb4
  have xa0 := ea0
  have xa1 := ea1
  have xa2 := ea2
  have xa3 := ea3
  have xa4 := ea4
  rw [← Heq.out] at xa0 xa1 xa2 xa3 xa4
  have HS := Lib.hid hS
  have HSa := Lib.hid hSa
  have HSb := Lib.hid hSb
  rcases hmu with ⟨h0, _⟩ | ⟨hv0, hc3⟩
  · have dc : (t.c != 0) = false := by simp [h0]
    have HM : Hid ((⟨(mbody t.v t.c).toArray⟩ : ByteArray) = ⟨#[109]⟩ ++ S1) := Lib.hid (by
      unfold mbody
      rw [if_pos h0, ← hS1]
      exact ba_ext (by rw [ba_append]; simp))
    clear hS hlen0 hp hc hal hbl hx0 hx1 hia hib hm htx hx hk hSa hSb hS1 h0 hv ih
    go_enter Tryd.func40, Tryd.ntmps40
    go_wp2_with fail
    refine (Hd.out _).mono ?_; rintro e w1 ⟨rfl, rfl⟩
    go_wp2_with fail
    rw [Heq.out]
    refine Hqa.out.mono ?_; rintro e w1 ⟨rfl, hb1⟩
    have hz1 := Hz.out.below hb1 Hz.out.lt
    have z4 := hz1.cell 4
    have hcW : ∀ j, w1.cell? ⟨b0, j, none⟩ = W.cell? ⟨b0, j, none⟩ := fun j => hb1.cell (p := ⟨b0, j, none⟩) hb
    have a0 := (hcW _).trans ea0
    have g0 := (hcW _).trans eb0
    have g1 := (hcW _).trans eb1
    have g2 := (hcW _).trans eb2
    have g3 := (hcW _).trans eb3
    have g4 := (hcW _).trans eb4
    have Hqb := Lib.hid (Hib.out Sb HSb.out Ab mb cb w1 ((HLb.out.below hb1).more hb1.size) ((HNm.out.below hb1).more hb1.size))
    have Hbw := Lib.hid (Hbx.out.trans (hb1.mono Hbx.out.size))
    clear hcW hz1 hb1 Hqa
    by_cases ha : a.k = 7
    · have da : (a.k == 7) = true := by simp [ha]
      have HF : Hid ((⟨#[40]⟩ : ByteArray) ++ Sa ++ ⟨#[41]⟩ ++ ⟨#[32, 45]⟩ ++ (⟨#[109]⟩ ++ S1) ++ ⟨#[62, 32]⟩ ++ Sb = S) := Lib.hid (by
        rw [← HS.out, da, ← HM.out, ← HSa.out, ← HSb.out]
        exact ba_ext (by simp [txPar]))
      clear ha
      go_wp2_with fail
      refine Hqb.out.mono ?_; rintro e w2 ⟨rfl, hb2⟩
      go_wp2_with fail
      go_ret
      exact ⟨by rw [← HF.out]; rfl, Hbw.out.trans (hb2.mono Hbw.out.size)⟩
    · have da : (a.k == 7) = false := by simpa using ha
      have HF : Hid (Sa ++ ⟨#[32, 45]⟩ ++ (⟨#[109]⟩ ++ S1) ++ ⟨#[62, 32]⟩ ++ Sb = S) := Lib.hid (by
        rw [← HS.out, da, ← HM.out, ← HSa.out, ← HSb.out]
        exact ba_ext (by simp [txPar]))
      clear ha
      go_wp2_with fail
      refine Hqb.out.mono ?_; rintro e w2 ⟨rfl, hb2⟩
      go_wp2_with fail
      go_ret
      exact ⟨by rw [← HF.out]; rfl, Hbw.out.trans (hb2.mono Hbw.out.size)⟩
  · have dc : (t.c != 0) = true := by simp; omega
    obtain ⟨M, hM⟩ : ∃ M, mtext t.c = M := ⟨_, rfl⟩
    have hsM : M.size ≤ 1 := by rw [← hM]; exact mtext_size _
    have Hr := Lib.hid (fun w => rtext_any hc3 hM w)
    have HM : Hid ((⟨(mbody t.v t.c).toArray⟩ : ByteArray) = M) := Lib.hid (by
      unfold mbody
      rw [if_neg (by omega), hM])
    clear hS hlen0 hp hc hal hbl hx0 hx1 hia hib hm htx hx hk hSa hSb hS1 hv0 hc3 hv hM ih
    go_enter Tryd.func40, Tryd.ntmps40
    go_wp2_with fail
    refine (Hd.out _).mono ?_; rintro e w1 ⟨rfl, rfl⟩
    go_wp2_with fail
    refine (Hr.out _).mono ?_; rintro e w1 ⟨rfl, rfl⟩
    go_wp2_with fail
    rw [Heq.out]
    refine Hqa.out.mono ?_; rintro e w1 ⟨rfl, hb1⟩
    have hz1 := Hz.out.below hb1 Hz.out.lt
    have z4 := hz1.cell 4
    have hcW : ∀ j, w1.cell? ⟨b0, j, none⟩ = W.cell? ⟨b0, j, none⟩ := fun j => hb1.cell (p := ⟨b0, j, none⟩) hb
    have a0 := (hcW _).trans ea0
    have g0 := (hcW _).trans eb0
    have g1 := (hcW _).trans eb1
    have g2 := (hcW _).trans eb2
    have g3 := (hcW _).trans eb3
    have g4 := (hcW _).trans eb4
    have Hqb := Lib.hid (Hib.out Sb HSb.out Ab mb cb w1 ((HLb.out.below hb1).more hb1.size) ((HNm.out.below hb1).more hb1.size))
    have Hbw := Lib.hid (Hbx.out.trans (hb1.mono Hbx.out.size))
    clear hcW hz1 hb1 Hqa
    by_cases ha : a.k = 7
    · have da : (a.k == 7) = true := by simp [ha]
      have HF : Hid ((⟨#[40]⟩ : ByteArray) ++ Sa ++ ⟨#[41]⟩ ++ ⟨#[32, 45]⟩ ++ (M) ++ ⟨#[62, 32]⟩ ++ Sb = S) := Lib.hid (by
        rw [← HS.out, da, ← HM.out, ← HSa.out, ← HSb.out]
        exact ba_ext (by simp [txPar]))
      clear ha
      go_wp2_with fail
      refine Hqb.out.mono ?_; rintro e w2 ⟨rfl, hb2⟩
      go_wp2_with fail
      go_ret
      exact ⟨by rw [← HF.out]; rfl, Hbw.out.trans (hb2.mono Hbw.out.size)⟩
    · have da : (a.k == 7) = false := by simpa using ha
      have HF : Hid (Sa ++ ⟨#[32, 45]⟩ ++ (M) ++ ⟨#[62, 32]⟩ ++ Sb = S) := Lib.hid (by
        rw [← HS.out, da, ← HM.out, ← HSa.out, ← HSb.out]
        exact ba_ext (by simp [txPar]))
      clear ha
      go_wp2_with fail
      refine Hqb.out.mono ?_; rintro e w2 ⟨rfl, hb2⟩
      go_wp2_with fail
      go_ret
      exact ⟨by rw [← HF.out]; rfl, Hbw.out.trans (hb2.mono Hbw.out.size)⟩

theorem kid_le {ws : List ByteArray} {t x : TyD} (hm : mayT t = true) (hx : x ∈ t.l) : (txB ws x).length ≤ (txB ws t).length := by
  obtain ⟨i, hi, rfl⟩ := List.getElem_of_mem hx
  have f := may_facts hm
  by_cases h7 : t.k = 7
  · rw [txB_eq ws t, if_neg (by omega), if_neg (by omega), if_neg (by omega), if_neg (by omega), if_neg (by omega), if_pos h7]
    have h1 := funL_step ws (txMark t.v t.c) t.l i hi
    have h2 := funL_le ws (txMark t.v t.c) t.l (i + 1)
    have h3 := par_ge (decide (i = 0) && t.l[i].k == 7) (txB ws t.l[i])
    rw [h1, List.length_append, List.length_append] at h2
    omega
  · by_cases h6 : t.k < 6
    · exact absurd hi (by rw [may_leaf hm h6]; simp)
    · rw [txB_eq ws t, if_neg (by omega), if_neg (by omega), if_neg (by omega), if_neg (by omega), if_neg (by omega), if_neg h7, List.length_append]
      have h1 := dataL_step ws t.l i hi
      have h2 := dataL_le ws t.l (i + 1)
      have h3 := par_ge (txIn t.l[i]) (txB ws t.l[i])
      rw [h1, List.length_append, List.length_cons] at h2
      omega
theorem refText_go (An : Option Addr) (nn cn : Nat) (ws : List ByteArray) (hw : NoBl ws) (N : Nat) : ∀ t : TyD, nodes t ≤ N → mayT t = true → (txB ws t).length ≤ 1099511627776 → TxOK An nn cn ws t := by
  induction N with
  | zero => intro t hN; exact absurd hN (by rw [nodes_eq t]; omega)
  | succ N ih =>
    intro t hN hm hlen
    have f := may_facts hm
    have ih2 : ∀ x ∈ t.l, TxOK An nn cn ws x := fun x hx => ih x (by have := nodes_mem hx; rw [nodes_eq t] at hN; omega) (f.2.2.2.2.2.2 x hx) (Nat.le_trans (kid_le hm hx) hlen)
    by_cases h6 : t.k < 6
    · exact refText_leaf hm h6
    by_cases h7 : t.k = 6
    · exact refText_arr hw hm h7 hlen ih2
    by_cases h8 : t.k = 7
    · exact refText_fun hm h8 hlen ih2
    · exact refText_data hw hm (by omega) hlen ih2
end Go.Proofs.YtidamlkekgnhgaaDoor

