/- Texts of numbers and of terms: the contracts of strconv.Itoa, usufructref02.Digits. -/
import Derived.Test.YtbccnfgceabopaaDoorShelf
import Derived.Test.YtbccnfgceabopaaDoorRefOT
import Derived.Test.YtbccnfgceabopaaDoorMem
import Derived.Test.YtbccnfgceabopaaDoorTermDef
import Derived.Shelf.Unicode.PredsPay
import Derived.Lib.ItoaLen
import Derived.Lib.ItoaMem
namespace Go.Proofs.YtbccnfgceabopaaDoor
set_option linter.unusedVariables false
set_option linter.unusedSimpArgs false
open Go.RowKit

/-- the table of powers is laid -/
def Tab (w : World) : Prop := Lib.TabIs Tryd.prog w "internal/strconv.uint64pow10" .u64 Lib.pow10Tab
theorem gTab : ∃ g, Tryd.prog.globalNamed "internal/strconv.uint64pow10" = some g := Option.isSome_iff_exists.1 (by kernel_rfl)
theorem Tab.below {w w' : World} (h : Tab w) (hb : Below w.heap.size w w') : Tab w' := by
  obtain ⟨g, hg⟩ := gTab
  exact TabIs_below hg h hb

def numT (n : Int) : ByteArray := ⟨(Lib.itoa n).toArray⟩
theorem below_grow {w : World} (k : Nat) (os : Array Obj) : Below w.heap.size w (Go.Sort.grow (w.drewN k) os) :=
  ⟨rfl, rfl, rfl, by simp [Go.Sort.grow, World.drewN], fun j hj => by simp [Go.Sort.grow, World.drewN, Array.getElem?_append, hj]⟩
theorem itoa_any (n : Int) (h0 : -9223372036854775808 ≤ n) (h1 : n ≤ 9223372036854775807) (w : World) (ht : Tab w) :
    Calls Tryd.prog 44 #[.int .i64 n] w fun e w' => e = .returned (.string (numT n)) ∧ Below w.heap.size w w' :=
  (Tryd.strconv_Itoa n h0 h1 w ht).mono fun e w' ⟨he, k, os, hw⟩ => ⟨he, by rw [hw]; exact below_grow k os⟩

theorem digits_small (n : Nat) (h : n < 10) (w : World) :
    Calls Tryd.prog 50 #[.int .i64 n] w fun e w' => e = .returned (.string ⟨(Lib.decDigits n).toArray⟩) ∧ w = w' := by
  rw [Lib.decDigits_one h]
  match n, h with
  | 0, _ =>
    go_enter Tryd.func50, Tryd.ntmps50
    go_wp2_with fail
    go_ret
    exact ⟨rfl, rfl⟩
  | 1, _ =>
    go_enter Tryd.func50, Tryd.ntmps50
    go_wp2_with fail
    go_ret
    exact ⟨rfl, rfl⟩
  | 2, _ =>
    go_enter Tryd.func50, Tryd.ntmps50
    go_wp2_with fail
    go_ret
    exact ⟨rfl, rfl⟩
  | 3, _ =>
    go_enter Tryd.func50, Tryd.ntmps50
    go_wp2_with fail
    go_ret
    exact ⟨rfl, rfl⟩
  | 4, _ =>
    go_enter Tryd.func50, Tryd.ntmps50
    go_wp2_with fail
    go_ret
    exact ⟨rfl, rfl⟩
  | 5, _ =>
    go_enter Tryd.func50, Tryd.ntmps50
    go_wp2_with fail
    go_ret
    exact ⟨rfl, rfl⟩
  | 6, _ =>
    go_enter Tryd.func50, Tryd.ntmps50
    go_wp2_with fail
    go_ret
    exact ⟨rfl, rfl⟩
  | 7, _ =>
    go_enter Tryd.func50, Tryd.ntmps50
    go_wp2_with fail
    go_ret
    exact ⟨rfl, rfl⟩
  | 8, _ =>
    go_enter Tryd.func50, Tryd.ntmps50
    go_wp2_with fail
    go_ret
    exact ⟨rfl, rfl⟩
  | 9, _ =>
    go_enter Tryd.func50, Tryd.ntmps50
    go_wp2_with fail
    go_ret
    exact ⟨rfl, rfl⟩

theorem bytes_append (a b : List UInt8) : (⟨a.toArray⟩ : ByteArray) ++ ⟨b.toArray⟩ = ⟨(a ++ b).toArray⟩ := by
  apply ByteArray.ext
  simp
theorem dec_len (n : Nat) (h : n ≤ 9223372036854775807) : (Lib.decDigits n).length ≤ 21 := by
  rw [← Lib.itoa_nonneg]
  exact Lib.itoa_length_le n (by omega) (by omega)
theorem digits_any : ∀ (n : Nat), n ≤ 9223372036854775807 → ∀ (w : World),
    Calls Tryd.prog 50 #[.int .i64 n] w fun e w' => e = .returned (.string ⟨(Lib.decDigits n).toArray⟩) ∧ w = w'
  | n, hn, w => by
    by_cases h : n < 10
    · exact digits_small n h w
    · have h1 := Lib.hid (digits_any (n / 10) (by omega))
      have h2 := Lib.hid (digits_small (n % 10) (by omega))
      have e : Lib.decDigits n = Lib.decDigits (n / 10) ++ Lib.decDigits (n % 10) := by
        rw [Lib.decDigits, dif_neg h, Lib.decDigits_one (i := n % 10) (by omega)]
      have He := Lib.hid e
      have d : decide ((n : Int) < 10) = false := by simp; omega
      clear e h
      go_enter Tryd.func50, Tryd.ntmps50
      go_wp2_with fail
      rw [show (n : Int) / 10 = ((n / 10 : Nat) : Int) from by omega]
      refine (h1.out w).mono ?_; rintro e w1 ⟨rfl, rfl⟩
      go_wp2_with fail
      rw [show (n : Int) % 10 = ((n % 10 : Nat) : Int) from by omega]
      refine (h2.out w).mono ?_; rintro e w1 ⟨rfl, rfl⟩
      have l1 : (Lib.decDigits (n / 10)).length ≤ 21 := dec_len _ (by omega)
      have l2 : (Lib.decDigits (n % 10)).length ≤ 21 := dec_len _ (by omega)
      generalize Lib.decDigits (n / 10) = L1 at He l1 ⊢
      generalize Lib.decDigits (n % 10) = L2 at He l2 ⊢
      go_wp2_with fail
      go_ret
      exact ⟨by rw [He.out, bytes_append]; rfl, rfl⟩
termination_by n => n

/-- a variable's name -/
def mname (v : Int) : ByteArray := ⟨#[109]⟩ ++ numT v
def headT (t : TermD) : List ByteArray := if 1 < t.c ∨ t.vars = [] then [mtext t.c] else []
def partsT (t : TermD) : List ByteArray := headT t ++ t.vars.map mname
def joinB (l : List ByteArray) : ByteArray := ⟨(Lib.join (l.map (·.data.toList)) [124]).toArray⟩
def textT (t : TermD) : ByteArray := if t.never then ⟨#[48]⟩ else joinB (partsT t)
theorem mname_len (v : Int) (h0 : -9223372036854775808 ≤ v) (h1 : v ≤ 9223372036854775807) : (mname v).data.toList.length ≤ 22 := by
  have := Lib.itoa_length_le v h0 h1
  unfold mname numT
  simp
  omega
theorem numT_size (v : Int) (h0 : -9223372036854775808 ≤ v) (h1 : v ≤ 9223372036854775807) : (numT v).size ≤ 21 := by
  have := Lib.itoa_length_le v h0 h1
  unfold numT
  simpa [ByteArray.size] using this
theorem mtext_len (m : Int) : (mtext m).data.toList.length ≤ 22 := by
  unfold mtext tOne tAff tMany
  split
  · decide
  · split <;> decide
theorem own_cap {w : World} {base : Nat} {e : TypeId} {size n c : Nat} {A : Option Addr} {xs : List Value} (h : w.ownsRow base e size (.slice A n c) n xs) : n ≤ c := by
  rcases h.2 with ⟨e0, hn⟩ | ⟨g, cap, cur, e0, hb, hg, hn, hm, hs, ht⟩
  · omega
  · injection e0 with _ _ e3
    subst e3
    exact hn
theorem join_len (sep : List UInt8) (h : sep.length ≤ 22) : ∀ (l : List (List UInt8)), (∀ x ∈ l, x.length ≤ 22) → (Lib.join l sep).length ≤ 44 * l.length
  | [], _ => by simp [Lib.join]
  | [x], hl => by
    have := hl x (by simp)
    rw [Lib.join_one]
    simp
    omega
  | x :: y :: l, hl => by
    have h1 := hl x (by simp)
    have h2 := join_len sep h (y :: l) fun z hz => hl z (List.mem_cons_of_mem _ hz)
    unfold Lib.join at h2 ⊢
    rw [List.intercalate_cons_cons]
    simp only [List.length_append, List.length_cons] at h2 ⊢
    omega
theorem parts_all (t : TermD) (h : ∀ v ∈ t.vars, -9223372036854775808 ≤ v ∧ v ≤ 9223372036854775807) : ∀ x ∈ partsT t, x.data.toList.length ≤ 22 := by
  intro x hx
  unfold partsT headT at hx
  rcases List.mem_append.1 hx with hx | hx
  · split at hx
    · rw [List.mem_singleton] at hx; subst hx; exact mtext_len _
    · simp at hx
  · obtain ⟨v, hv, rfl⟩ := List.mem_map.1 hx
    exact mname_len v (h v hv).1 (h v hv).2


set_option maxHeartbeats 1000000 in
set_option maxRecDepth 100000 in
theorem text_any_t (v : Value) (t : TermD) (w : World) (B : Nat) (hv : TermV w B v t) (hB : B ≤ w.heap.size) (ht : Tab w) (hbig : t.vars.length ≤ 1099511627776) (hwf : ∀ v ∈ t.vars, -9223372036854775808 ≤ v ∧ v ≤ 9223372036854775807) :
    Calls Tryd.prog 33 #[v] w fun e w' => e = .returned (.string (textT t)) ∧ Below w.heap.size w w' := by
  obtain ⟨A, n, c, rfl, hr⟩ := hv
  obtain ⟨tn, tc, tv⟩ := t
  have hl := hr.len
  have hn63 : n ≤ 1099511627776 := by rw [← hl]; exact hbig
  obtain ⟨i0, hi0, hz0, hz1, hz2⟩ := info_parts (show (Tryd.prog.info? 9).map (fun i => (i.zero, i.size, i.bytes)) = some (some (.string ⟨#[]⟩), 1, 16) from by kernel_rfl)
  have hbel := (Below.refl w.heap.size w).alloc (Nat.le_refl _) (Obj.cells #[.bool tn, .int .u8 tc, .slice A n c] 25)
  replace hr := hr.more hB
  have hself := blk_new w #[.bool tn, .int .u8 tc, .slice A n c] 25
  have Hl := Lib.hid hl
  have Hwf := Lib.hid hwf
  clear hl hbig hwf
  cases tn
  · have Hr0 := Lib.hid (hr : RdI .i64 w w.heap.size A n c tv)
    have Ht0 := Lib.hid ht
    have hways : (decide (1 < tc) = true ∧ headT ⟨false, tc, tv⟩ = [mtext tc]) ∨ (decide (1 < tc) = false ∧ ((n : Int) == 0) = true ∧ headT ⟨false, tc, tv⟩ = [mtext tc]) ∨ (decide (1 < tc) = false ∧ ((n : Int) == 0) = false ∧ headT ⟨false, tc, tv⟩ = []) := by
      unfold headT
      have hl : tv.length = n := Hl.out
      by_cases h1 : 1 < tc
      · exact .inl ⟨by simpa using h1, by simp [h1]⟩
      · by_cases h2 : n = 0
        · exact .inr (.inl ⟨by simpa using h1, by simp [h2], by rw [if_pos (.inr (List.eq_nil_of_length_eq_zero (by rw [hl, h2])))]⟩)
        · refine .inr (.inr ⟨by simpa using h1, by simp; omega, ?_⟩)
          rw [if_neg]
          rintro (h | h)
          · exact h1 h
          · have h : tv = [] := h
            rw [h] at hl; simp at hl; omega
    have hpl : ∀ H, headT ⟨false, tc, tv⟩ = H → textT ⟨false, tc, tv⟩ = joinB (H ++ tv.map mname) := by
      intro H h
      unfold textT partsT
      rw [h]; rfl
    have Hpl := Lib.hid hpl
    clear hpl hr ht
    rcases hways with ⟨d1, hh⟩ | ⟨d1, d2, hh⟩ | ⟨d1, d2, hh⟩
    · have HH := Lib.hid hh
      clear hh
      go_enter Tryd.func33, Tryd.ntmps33
      go_wp2_with fail
      refine (text_any tc _).mono ?_; rintro e w1 ⟨rfl, hb1⟩
      have hself1 := hself.below hb1 hself.lt
      have hbel1 := hbel.trans (hb1.mono hbel.size)
      have c2 : w1.cell? ⟨w.heap.size, 2, none⟩ = some (.slice A n c) := hself1.cell 2
      clear hself hb1 hbel
      go_wp2_with (at_builtin; refine wpList_append_one w w1 rfl (.tmp 17) (.tmp 21) 26 rfl w.heap.size 9 i0 _ 1 16 Tryd.underlying26 hi0 hz0 hz1 hz2 rfl (by omega) (.slice none 0 0) 0 [] rfl [.string (mtext tc)] rfl (by intro u hu; simp at hu; subst hu; rfl) rfl (World.ownsRow_nil _ _ _ _) (by unfold maxLen; omega) (by omega) hbel1 hbel1.size ?_; intro A2 c2' w2 ho2 hbel2 hg2 hz2'; have hb2 : Below w1.heap.size w1 w2 := ⟨hg2.os, hg2.tape, hg2.output, hg2.size, fun k hk => hg2.block k hk (by simp [Value.ownBlock])⟩; have c3 : w2.cell? ⟨w.heap.size, 2, none⟩ = some (.slice A n c) := (hb2.cell (p := ⟨w.heap.size, 2, none⟩) hself1.lt).trans c2; clear hg2)
      have ho0 : w2.ownsRow w.heap.size 9 1 (.slice A2 1 c2') 1 (([mtext tc] : List ByteArray).map Value.string) := ho2
      clear ho2 hb2 c2 c3 hself1 hbel1 hz2'
      go_loopg [3, 5, 26] n (fun g o _ i wr => ∃ (k m : Nat) (A1 : Option Addr) (c1 : Nat), k ≤ n ∧ g = n - k ∧ i = .int .i64 k ∧ o = .slice A1 m c1 ∧ m = 1 + k ∧
        wr.ownsRow w.heap.size 9 1 (.slice A1 m c1) m (([mtext tc] ++ (tv.take k).map mname).map Value.string) ∧ Below w.heap.size w wr)
      case atStart => exact ⟨0, 1, A2, c2', Nat.zero_le _, rfl, rfl, rfl, rfl, by simpa using ho0, hbel2⟩
      case round =>
        clear ho0
        obtain ⟨k, m, A1, c1, hk, rfl, rfl, rfl, hm, ho, hbel⟩ := hrel
        have Hm := Lib.hid hm
        have hmb : m ≤ 1 + n := by omega
        clear hm
        by_cases hlk : k < n
        · have hk' : k < tv.length := by rw [Hl.out]; exact hlk
          obtain ⟨b, off, rfl, hb, hcell⟩ := (Hr0.out.below hbel).at_ (by omega)
          have x0 := hcell k hk'
          have htk : tv.take (k + 1) = tv.take k ++ [tv[k]] := List.take_succ_eq_append_getElem hk'
          have Htk := Lib.hid htk
          have hwk := Hwf.out tv[k] (List.getElem_mem hk')
          have Ho := Lib.hid ho
          clear htk hcell ho
          go_wp2_with fail
          refine (itoa_any tv[k] hwk.1 hwk.2 wr (Ht0.out.below hbel)).mono ?_; rintro e w3 ⟨rfl, hb3⟩
          have ho3 := ownsRow_beyond Ho.out hb3
          have hbel3 := hbel.trans (hb3.mono hbel.size)
          have hnl : (numT tv[k]).size ≤ 21 := numT_size _ hwk.1 hwk.2
          clear hb3
          go_wp2_with (at_builtin; refine wpList_append_one w w3 rfl (.tmp 30) (.tmp 34) 26 rfl w.heap.size 9 i0 _ 1 16 Tryd.underlying26 hi0 hz0 hz1 hz2 rfl (by omega) (.slice A1 m c1) m _ rfl [.string (mname tv[k])] rfl (by intro u hu; simp at hu; subst hu; rfl) rfl ho3 (by unfold maxLen; omega) (by omega) hbel3 hbel3.size ?_; intro A4 c4 w4 ho4 hbel4 hg4 hz4; clear hg4)
          go_roundg (n - (k + 1))
          case measure => omega
          case rel => exact ⟨k + 1, m + 1, A4, c4, by omega, rfl, by go_num, rfl, by have := Hm.out; omega, by rw [Htk.out, List.map_append (f := mname), ← List.append_assoc, List.map_append (f := Value.string)]; exact ho4, hbel4⟩
        · have hkn : k = n := by omega
          subst hkn
          have hall : tv.take k = tv := List.take_of_length_le (by rw [Hl.out]; exact Nat.le_refl _)
          rw [hall] at ho
          have HF := Lib.hid (Hpl.out _ HH.out)
          have hne : 0 < m := by
            have := Hm.out
            first | omega | (have h2 : ((k : Int) == 0) = false := d2; simp at h2; omega)
          have hpp : partsT ⟨false, tc, tv⟩ = [mtext tc] ++ tv.map mname := by unfold partsT; rw [HH.out]
          have hpa := parts_all ⟨false, tc, tv⟩ Hwf.out
          rw [hpp] at hpa
          have hlm : ([mtext tc] ++ tv.map mname).length = m := by simpa using ho.1
          obtain ⟨g, cap, hv, _, hlt⟩ := ho.form hne
          injection hv with hv1 _ hv2
          subst hv1; subst hv2
          have hcap : m ≤ c1 := own_cap ho
          have hjl := join_len [124] (by simp) (([mtext tc] ++ tv.map mname).map (·.data.toList)) (by
            intro x hx
            obtain ⟨y, hy, rfl⟩ := List.mem_map.1 hx
            exact hpa y hy)
          rw [List.length_map, hlm] at hjl
          have hcl : ∀ (j : Nat) x, ([mtext tc] ++ tv.map mname)[j]? = some x → wr.cell? ⟨g, 0 + j, none⟩ = some (.string x) := by
            intro j x hx
            have := ho.cells (g := g) rfl j (.string x) (by rw [List.getElem?_map, hx]; rfl)
            rw [show (Addr.add ⟨g, 0, none⟩ j) = ⟨g, 0 + j, none⟩ from by unfold Addr.add; split <;> simp_all] at this
            exact this
          have hjn : Calls Tryd.prog 46 #[.slice (some ⟨g, 0, none⟩) m c1, .string ⟨#[124]⟩] wr fun e w' => e = .returned (.string (textT ⟨false, tc, tv⟩)) ∧ Below wr.heap.size wr w' := by
            rw [HF.out]
            have h := Tryd.strings_Join g 0 c1 ([mtext tc] ++ tv.map mname) ⟨#[124]⟩ wr hcl hlt (by omega) (by omega) (by
              show (Lib.join _ [124]).length ≤ _
              omega)
            rw [hlm] at h
            exact h
          have Hjn := Lib.hid hjn
          clear hjn hcl hjl hpa hpp hlm ho hne hall
          go_wp2_with fail
          refine Hjn.out.mono ?_; rintro e w5 ⟨rfl, hb5⟩
          go_wp2_with fail
          go_ret
          exact ⟨rfl, stepB hbel hb5⟩
    · have HH := Lib.hid hh
      clear hh
      go_enter Tryd.func33, Tryd.ntmps33
      go_wp2_with fail
      refine (text_any tc _).mono ?_; rintro e w1 ⟨rfl, hb1⟩
      have hself1 := hself.below hb1 hself.lt
      have hbel1 := hbel.trans (hb1.mono hbel.size)
      have c2 : w1.cell? ⟨w.heap.size, 2, none⟩ = some (.slice A n c) := hself1.cell 2
      clear hself hb1 hbel
      go_wp2_with (at_builtin; refine wpList_append_one w w1 rfl (.tmp 17) (.tmp 21) 26 rfl w.heap.size 9 i0 _ 1 16 Tryd.underlying26 hi0 hz0 hz1 hz2 rfl (by omega) (.slice none 0 0) 0 [] rfl [.string (mtext tc)] rfl (by intro u hu; simp at hu; subst hu; rfl) rfl (World.ownsRow_nil _ _ _ _) (by unfold maxLen; omega) (by omega) hbel1 hbel1.size ?_; intro A2 c2' w2 ho2 hbel2 hg2 hz2'; have hb2 : Below w1.heap.size w1 w2 := ⟨hg2.os, hg2.tape, hg2.output, hg2.size, fun k hk => hg2.block k hk (by simp [Value.ownBlock])⟩; have c3 : w2.cell? ⟨w.heap.size, 2, none⟩ = some (.slice A n c) := (hb2.cell (p := ⟨w.heap.size, 2, none⟩) hself1.lt).trans c2; clear hg2)
      have ho0 : w2.ownsRow w.heap.size 9 1 (.slice A2 1 c2') 1 (([mtext tc] : List ByteArray).map Value.string) := ho2
      clear ho2 hb2 c2 c3 hself1 hbel1 hz2'
      go_loopg [3, 5, 26] n (fun g o _ i wr => ∃ (k m : Nat) (A1 : Option Addr) (c1 : Nat), k ≤ n ∧ g = n - k ∧ i = .int .i64 k ∧ o = .slice A1 m c1 ∧ m = 1 + k ∧
        wr.ownsRow w.heap.size 9 1 (.slice A1 m c1) m (([mtext tc] ++ (tv.take k).map mname).map Value.string) ∧ Below w.heap.size w wr)
      case atStart => exact ⟨0, 1, A2, c2', Nat.zero_le _, rfl, rfl, rfl, rfl, by simpa using ho0, hbel2⟩
      case round =>
        clear ho0
        obtain ⟨k, m, A1, c1, hk, rfl, rfl, rfl, hm, ho, hbel⟩ := hrel
        have Hm := Lib.hid hm
        have hmb : m ≤ 1 + n := by omega
        clear hm
        by_cases hlk : k < n
        · have hk' : k < tv.length := by rw [Hl.out]; exact hlk
          obtain ⟨b, off, rfl, hb, hcell⟩ := (Hr0.out.below hbel).at_ (by omega)
          have x0 := hcell k hk'
          have htk : tv.take (k + 1) = tv.take k ++ [tv[k]] := List.take_succ_eq_append_getElem hk'
          have Htk := Lib.hid htk
          have hwk := Hwf.out tv[k] (List.getElem_mem hk')
          have Ho := Lib.hid ho
          clear htk hcell ho
          go_wp2_with fail
          refine (itoa_any tv[k] hwk.1 hwk.2 wr (Ht0.out.below hbel)).mono ?_; rintro e w3 ⟨rfl, hb3⟩
          have ho3 := ownsRow_beyond Ho.out hb3
          have hbel3 := hbel.trans (hb3.mono hbel.size)
          have hnl : (numT tv[k]).size ≤ 21 := numT_size _ hwk.1 hwk.2
          clear hb3
          go_wp2_with (at_builtin; refine wpList_append_one w w3 rfl (.tmp 30) (.tmp 34) 26 rfl w.heap.size 9 i0 _ 1 16 Tryd.underlying26 hi0 hz0 hz1 hz2 rfl (by omega) (.slice A1 m c1) m _ rfl [.string (mname tv[k])] rfl (by intro u hu; simp at hu; subst hu; rfl) rfl ho3 (by unfold maxLen; omega) (by omega) hbel3 hbel3.size ?_; intro A4 c4 w4 ho4 hbel4 hg4 hz4; clear hg4)
          go_roundg (n - (k + 1))
          case measure => omega
          case rel => exact ⟨k + 1, m + 1, A4, c4, by omega, rfl, by go_num, rfl, by have := Hm.out; omega, by rw [Htk.out, List.map_append (f := mname), ← List.append_assoc, List.map_append (f := Value.string)]; exact ho4, hbel4⟩
        · have hkn : k = n := by omega
          subst hkn
          have hall : tv.take k = tv := List.take_of_length_le (by rw [Hl.out]; exact Nat.le_refl _)
          rw [hall] at ho
          have HF := Lib.hid (Hpl.out _ HH.out)
          have hne : 0 < m := by
            have := Hm.out
            first | omega | (have h2 : ((k : Int) == 0) = false := d2; simp at h2; omega)
          have hpp : partsT ⟨false, tc, tv⟩ = [mtext tc] ++ tv.map mname := by unfold partsT; rw [HH.out]
          have hpa := parts_all ⟨false, tc, tv⟩ Hwf.out
          rw [hpp] at hpa
          have hlm : ([mtext tc] ++ tv.map mname).length = m := by simpa using ho.1
          obtain ⟨g, cap, hv, _, hlt⟩ := ho.form hne
          injection hv with hv1 _ hv2
          subst hv1; subst hv2
          have hcap : m ≤ c1 := own_cap ho
          have hjl := join_len [124] (by simp) (([mtext tc] ++ tv.map mname).map (·.data.toList)) (by
            intro x hx
            obtain ⟨y, hy, rfl⟩ := List.mem_map.1 hx
            exact hpa y hy)
          rw [List.length_map, hlm] at hjl
          have hcl : ∀ (j : Nat) x, ([mtext tc] ++ tv.map mname)[j]? = some x → wr.cell? ⟨g, 0 + j, none⟩ = some (.string x) := by
            intro j x hx
            have := ho.cells (g := g) rfl j (.string x) (by rw [List.getElem?_map, hx]; rfl)
            rw [show (Addr.add ⟨g, 0, none⟩ j) = ⟨g, 0 + j, none⟩ from by unfold Addr.add; split <;> simp_all] at this
            exact this
          have hjn : Calls Tryd.prog 46 #[.slice (some ⟨g, 0, none⟩) m c1, .string ⟨#[124]⟩] wr fun e w' => e = .returned (.string (textT ⟨false, tc, tv⟩)) ∧ Below wr.heap.size wr w' := by
            rw [HF.out]
            have h := Tryd.strings_Join g 0 c1 ([mtext tc] ++ tv.map mname) ⟨#[124]⟩ wr hcl hlt (by omega) (by omega) (by
              show (Lib.join _ [124]).length ≤ _
              omega)
            rw [hlm] at h
            exact h
          have Hjn := Lib.hid hjn
          clear hjn hcl hjl hpa hpp hlm ho hne hall
          go_wp2_with fail
          refine Hjn.out.mono ?_; rintro e w5 ⟨rfl, hb5⟩
          go_wp2_with fail
          go_ret
          exact ⟨rfl, stepB hbel hb5⟩
    · have HH := Lib.hid hh
      clear hh
      go_enter Tryd.func33, Tryd.ntmps33
      go_wp2_with fail
      generalize w.alloc (Obj.cells #[.bool false, .int .u8 tc, .slice A n c] 25) = w1 at hbel hself ⊢
      clear hself
      have ho0 : w1.ownsRow w.heap.size 9 1 (.slice none 0 0) 0 (([] : List ByteArray).map Value.string) := World.ownsRow_nil _ _ _ _
      go_loopg [3, 5, 26] n (fun g o _ i wr => ∃ (k m : Nat) (A1 : Option Addr) (c1 : Nat), k ≤ n ∧ g = n - k ∧ i = .int .i64 k ∧ o = .slice A1 m c1 ∧ m = 0 + k ∧
        wr.ownsRow w.heap.size 9 1 (.slice A1 m c1) m ((([] : List ByteArray) ++ (tv.take k).map mname).map Value.string) ∧ Below w.heap.size w wr)
      case atStart => exact ⟨0, 0, none, 0, Nat.zero_le _, rfl, rfl, rfl, rfl, by simpa using ho0, hbel⟩
      case round =>
        clear ho0
        obtain ⟨k, m, A1, c1, hk, rfl, rfl, rfl, hm, ho, hbel⟩ := hrel
        have Hm := Lib.hid hm
        have hmb : m ≤ 1 + n := by omega
        clear hm
        by_cases hlk : k < n
        · have hk' : k < tv.length := by rw [Hl.out]; exact hlk
          obtain ⟨b, off, rfl, hb, hcell⟩ := (Hr0.out.below hbel).at_ (by omega)
          have x0 := hcell k hk'
          have htk : tv.take (k + 1) = tv.take k ++ [tv[k]] := List.take_succ_eq_append_getElem hk'
          have Htk := Lib.hid htk
          have hwk := Hwf.out tv[k] (List.getElem_mem hk')
          have Ho := Lib.hid ho
          clear htk hcell ho
          go_wp2_with fail
          refine (itoa_any tv[k] hwk.1 hwk.2 wr (Ht0.out.below hbel)).mono ?_; rintro e w3 ⟨rfl, hb3⟩
          have ho3 := ownsRow_beyond Ho.out hb3
          have hbel3 := hbel.trans (hb3.mono hbel.size)
          have hnl : (numT tv[k]).size ≤ 21 := numT_size _ hwk.1 hwk.2
          clear hb3
          go_wp2_with (at_builtin; refine wpList_append_one w w3 rfl (.tmp 30) (.tmp 34) 26 rfl w.heap.size 9 i0 _ 1 16 Tryd.underlying26 hi0 hz0 hz1 hz2 rfl (by omega) (.slice A1 m c1) m _ rfl [.string (mname tv[k])] rfl (by intro u hu; simp at hu; subst hu; rfl) rfl ho3 (by unfold maxLen; omega) (by omega) hbel3 hbel3.size ?_; intro A4 c4 w4 ho4 hbel4 hg4 hz4; clear hg4)
          go_roundg (n - (k + 1))
          case measure => omega
          case rel => exact ⟨k + 1, m + 1, A4, c4, by omega, rfl, by go_num, rfl, by have := Hm.out; omega, by rw [Htk.out, List.map_append (f := mname), ← List.append_assoc, List.map_append (f := Value.string)]; exact ho4, hbel4⟩
        · have hkn : k = n := by omega
          subst hkn
          have hall : tv.take k = tv := List.take_of_length_le (by rw [Hl.out]; exact Nat.le_refl _)
          rw [hall] at ho
          have HF := Lib.hid (Hpl.out _ HH.out)
          have hne : 0 < m := by
            have := Hm.out
            first | omega | (have h2 : ((k : Int) == 0) = false := d2; simp at h2; omega)
          have hpp : partsT ⟨false, tc, tv⟩ = ([] : List ByteArray) ++ tv.map mname := by unfold partsT; rw [HH.out]
          have hpa := parts_all ⟨false, tc, tv⟩ Hwf.out
          rw [hpp] at hpa
          have hlm : (([] : List ByteArray) ++ tv.map mname).length = m := by simpa using ho.1
          obtain ⟨g, cap, hv, _, hlt⟩ := ho.form hne
          injection hv with hv1 _ hv2
          subst hv1; subst hv2
          have hcap : m ≤ c1 := own_cap ho
          have hjl := join_len [124] (by simp) ((([] : List ByteArray) ++ tv.map mname).map (·.data.toList)) (by
            intro x hx
            obtain ⟨y, hy, rfl⟩ := List.mem_map.1 hx
            exact hpa y hy)
          rw [List.length_map, hlm] at hjl
          have hcl : ∀ (j : Nat) x, (([] : List ByteArray) ++ tv.map mname)[j]? = some x → wr.cell? ⟨g, 0 + j, none⟩ = some (.string x) := by
            intro j x hx
            have := ho.cells (g := g) rfl j (.string x) (by rw [List.getElem?_map, hx]; rfl)
            rw [show (Addr.add ⟨g, 0, none⟩ j) = ⟨g, 0 + j, none⟩ from by unfold Addr.add; split <;> simp_all] at this
            exact this
          have hjn : Calls Tryd.prog 46 #[.slice (some ⟨g, 0, none⟩) m c1, .string ⟨#[124]⟩] wr fun e w' => e = .returned (.string (textT ⟨false, tc, tv⟩)) ∧ Below wr.heap.size wr w' := by
            rw [HF.out]
            have h := Tryd.strings_Join g 0 c1 (([] : List ByteArray) ++ tv.map mname) ⟨#[124]⟩ wr hcl hlt (by omega) (by omega) (by
              show (Lib.join _ [124]).length ≤ _
              omega)
            rw [hlm] at h
            exact h
          have Hjn := Lib.hid hjn
          clear hjn hcl hjl hpa hpp hlm ho hne hall
          go_wp2_with fail
          refine Hjn.out.mono ?_; rintro e w5 ⟨rfl, hb5⟩
          go_wp2_with fail
          go_ret
          exact ⟨rfl, stepB hbel hb5⟩
  · clear hself
    go_enter Tryd.func33, Tryd.ntmps33
    go_wp2_with fail
    go_ret
    exact ⟨rfl, hbel⟩

end Go.Proofs.YtbccnfgceabopaaDoor
