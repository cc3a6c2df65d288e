/- slices.Clone, IndexFunc and DeleteFunc at uses (lines of TermD, TermE, TermF turned to uses); uses.Take. -/
import Derived.Test.YtimlbpjdgnapoaaUsesG
import Derived.Shelf.SlicesE.Clone
namespace Go.Proofs.Ytimlbpjdgnapoaa
set_option linter.unusedVariables false
set_option linter.unusedSimpArgs false
open Go.RowKit

def cloneRenU : Go.Shelf.Ren := ⟨fun | 41 => 52 | n => n, fun | 22 => 25 | 23 => 41 | 4 => 4 | n => n, fun | n => n⟩
theorem cloneLaysU : Go.Proofs.SlLaysE0.n41 Try.prog cloneRenU := {
  mixed := by kernel_rfl
  f41 := ⟨Try.f52.name, by decide, Try.func52.trans (congrArg some (by kernel_rfl))⟩
  t4 := Try.underlying4
  a4 := Try.isAgg4
  z4 := Try.sizeOf4
  v4 := Try.zeroValue4
  t22 := Try.underlying25
  a22 := Try.isAgg25
  z22 := Try.sizeOf25
  v22 := Try.zeroValue25 }

/-- four cells of a row read as a use, its variables below block B -/
def C4B (w : World) (B : Nat) (cs : List Value) (x : Nat) (t : UseD) : Prop :=
  ∃ A n c, cs[x * 4]? = some (.int .i64 t.v) ∧ cs[x * 4 + 1]? = some (.bool t.t.never) ∧ cs[x * 4 + 2]? = some (.int .u8 t.t.c) ∧ cs[x * 4 + 3]? = some (.slice A n c) ∧ RdI .i64 w B A n c t.t.vars
theorem C4B.keep {w w' : World} {B : Nat} {cs : List Value} {x : Nat} {t : UseD} (h : C4B w B cs x t) (hk : ∀ p : Addr, p.block < B → w'.cell? p = w.cell? p) : C4B w' B cs x t := by
  obtain ⟨A, n, c, e0, e1, e2, e3, hr⟩ := h
  exact ⟨A, n, c, e0, e1, e2, e3, hr.keep hk⟩
theorem C4B.more {w : World} {B B' : Nat} {cs : List Value} {x : Nat} {t : UseD} (h : C4B w B cs x t) (hB : B ≤ B') : C4B w B' cs x t := by
  obtain ⟨A, n, c, e0, e1, e2, e3, hr⟩ := h
  exact ⟨A, n, c, e0, e1, e2, e3, hr.more hB⟩
theorem C4B.cut {w : World} {B : Nat} {cs : List Value} {x m : Nat} {t : UseD} (h : C4B w B cs x t) (hx : x < m) : C4B w B (cs.take (m * 4)) x t := by
  obtain ⟨A, n, c, e0, e1, e2, e3, hr⟩ := h
  exact ⟨A, n, c, by rw [List.getElem?_take, if_pos (by omega)]; exact e0, by rw [List.getElem?_take, if_pos (by omega)]; exact e1, by rw [List.getElem?_take, if_pos (by omega)]; exact e2, by rw [List.getElem?_take, if_pos (by omega)]; exact e3, hr⟩
theorem C4B.congr {w : World} {B : Nat} {cs cs' : List Value} {x : Nat} {t : UseD} (h : C4B w B cs x t) (he : ∀ k, x * 4 ≤ k → k < x * 4 + 4 → cs'[k]? = cs[k]?) : C4B w B cs' x t := by
  obtain ⟨A, n, c, e0, e1, e2, e3, hr⟩ := h
  exact ⟨A, n, c, by rw [he _ (by omega) (by omega)]; exact e0, by rw [he _ (by omega) (by omega)]; exact e1, by rw [he _ (by omega) (by omega)]; exact e2, by rw [he _ (by omega) (by omega)]; exact e3, hr⟩
theorem C4B.cells {w : World} {B base : Nat} {e : TypeId} {g n c : Nat} {cs : List Value} {x : Nat} {t : UseD} (h : C4B w B cs x t) (hown : w.ownsRow base e 4 (.slice (some ⟨g, 0, none⟩) n c) n cs) (hx : x < n) :
    ∃ A m d, w.cell? ⟨g, x * 4, none⟩ = some (.int .i64 t.v) ∧ w.cell? ⟨g, x * 4 + 1, none⟩ = some (.bool t.t.never) ∧ w.cell? ⟨g, x * 4 + 2, none⟩ = some (.int .u8 t.t.c) ∧ w.cell? ⟨g, x * 4 + 3, none⟩ = some (.slice A m d) ∧ RdI .i64 w B A m d t.t.vars := by
  obtain ⟨A, m, d, e0, e1, e2, e3, hr⟩ := h
  exact ⟨A, m, d, by rw [hown.cellAt _ (by omega)]; exact e0, by rw [hown.cellAt _ (by omega)]; exact e1, by rw [hown.cellAt _ (by omega)]; exact e2, by rw [hown.cellAt _ (by omega)]; exact e3, hr⟩

theorem UsesV.cells {w : World} {B : Nat} {b off : Nat} : ∀ (m : Nat) (ts : List UseD), m ≤ ts.length → (∀ i (h : i < ts.length), UseAt w B b (off + i * 4) ts[i]) →
    ∃ cs : List Value, cs.length = m * 4 ∧ (∀ j u, cs[j]? = some u → w.cell? ⟨b, off + j, none⟩ = some u) ∧ (∀ u ∈ cs, u.oneCell' = true) ∧ ∀ i (h : i < ts.length), i < m → C4B w B cs i ts[i]
  | 0, ts, _, _ => ⟨[], rfl, fun j u h => by simp at h, fun u h => by simp at h, fun i _ h => absurd h (by omega)⟩
  | m + 1, ts, hm, hat => by
    obtain ⟨cs, hl, hc, h1, h3⟩ := UsesV.cells m ts (by omega) hat
    obtain ⟨e0, A, n, c, e1, e2, e3, hr⟩ := hat m (by omega)
    refine ⟨cs ++ [.int .i64 ts[m].v, .bool ts[m].t.never, .int .u8 ts[m].t.c, .slice A n c], by simp [hl]; omega, fun j u hu => ?_, fun u hu => ?_, fun i hi him => ?_⟩
    · rw [List.getElem?_append] at hu
      split at hu
      · exact hc j u hu
      · rename_i hj
        have hj3 : j - cs.length < 4 := by
          have := (List.getElem?_eq_some_iff.1 hu).1
          simpa using this
        have : j = m * 4 ∨ j = m * 4 + 1 ∨ j = m * 4 + 2 ∨ j = m * 4 + 3 := by omega
        rcases this with rfl | rfl | rfl | rfl
        · rw [hl, Nat.sub_self] at hu
          simp at hu
          rw [← hu]; exact e0
        · rw [hl, show m * 4 + 1 - m * 4 = 1 from by omega] at hu
          simp at hu
          rw [← hu, show off + (m * 4 + 1) = off + m * 4 + 1 from by omega]; exact e1
        · rw [hl, show m * 4 + 2 - m * 4 = 2 from by omega] at hu
          simp at hu
          rw [← hu, show off + (m * 4 + 2) = off + m * 4 + 1 + 1 from by omega]; exact e2
        · rw [hl, show m * 4 + 3 - m * 4 = 3 from by omega] at hu
          simp at hu
          rw [← hu, show off + (m * 4 + 3) = off + m * 4 + 1 + 2 from by omega]; exact e3
    · simp only [List.mem_append, List.mem_cons, List.not_mem_nil, or_false] at hu
      rcases hu with hu | rfl | rfl | rfl | rfl
      · exact h1 u hu
      · rfl
      · rfl
      · rfl
      · rfl
    · rcases Nat.lt_or_ge i m with h | h
      · obtain ⟨A', n', c', f0, f1, f2, f3, hr'⟩ := h3 i hi h
        exact ⟨A', n', c', by rw [List.getElem?_append_left (by omega)]; exact f0, by rw [List.getElem?_append_left (by omega)]; exact f1, by rw [List.getElem?_append_left (by omega)]; exact f2, by rw [List.getElem?_append_left (by omega)]; exact f3, hr'⟩
      · have : i = m := by omega
        subst this
        refine ⟨A, n, c, ?_, ?_, ?_, ?_, hr⟩
        · rw [List.getElem?_append_right (by omega), hl, Nat.sub_self]; rfl
        · rw [List.getElem?_append_right (by omega), hl, show i * 4 + 1 - i * 4 = 1 from by omega]; rfl
        · rw [List.getElem?_append_right (by omega), hl, show i * 4 + 2 - i * 4 = 2 from by omega]; rfl
        · rw [List.getElem?_append_right (by omega), hl, show i * 4 + 3 - i * 4 = 3 from by omega]; rfl

/-- a row of uses of the call's own, their variables below B -/
def OwnB (w : World) (base B : Nat) (v : Value) (n : Nat) (ts : List UseD) : Prop :=
  ts.length = n ∧ ∃ cs, w.ownsRow base 41 4 v n cs ∧ ∀ i (h : i < ts.length), C4B w B cs i ts[i]
def CloneU (ts : List UseD) (n : Nat) (w : World) (e : Ending) (w' : World) : Prop :=
  ∃ v, e = .returned v ∧ OwnB w' w.heap.size w.heap.size v n ts ∧ (v = .slice none 0 0 ∨ ∃ g c, v = .slice (some ⟨g, 0, none⟩) n c) ∧ Below w.heap.size w w'

set_option maxHeartbeats 400000 in
theorem cloneU_zero (a : Addr) (c : Nat) (w : World) :
    Calls Try.prog 52 #[.slice (some a) 0 c] w (CloneU [] 0 w) := by
  obtain ⟨i0, hi0, hz0, hz1, hz2⟩ := info_parts usageInfo
  have hq := fun w a n c n' c' => Lib.run_eql_slice_nil (P := Try.prog) w 25 41 a n c n' c' Try.underlying25
  go_enter Try.func52, Try.ntmps52
  go_wp2_with (at_builtin; refine wpList_append_own _ rfl _ _ 25 rfl w.heap.size 41 i0 _ 4 40 Try.underlying25 hi0 hz0 hz1 hz2 rfl (by omega) _ 0 [] rfl (World.ownsRow_lit w #[] 0 (Nat.le_refl _) (Nat.zero_le _) rfl) a 0 c [] rfl rfl (fun j u h => by simp at h) (fun u h => by simp at h) (Nat.zero_le _) (by omega) (by simp) ?_; intro v1 w1 hown1 hg1 hnil)
  go_ret
  refine ⟨v1, rfl, ⟨rfl, [], hown1, fun i h => absurd h (by simp)⟩, ?_, ((Below.refl _ _).alloc (Nat.le_refl _) _).grown hg1 (by simp) (fun k hk => by have hk' : some w.heap.size = some k := hk; injection hk' with h; omega)⟩
  rcases hown1.2 with ⟨e0, _⟩ | ⟨g, cap, cur, rfl, _⟩
  · exact .inl e0
  · exact .inr ⟨g, cap, rfl⟩

theorem cloneU_any (A : Option Addr) (n c : Nat) (ts : List UseD) (w : World) (hr : UsesV w w.heap.size A n c ts) (hbig : n * 40 ≤ 140737488355328) :
    Calls Try.prog 52 #[.slice A n c] w (CloneU ts n w) := by
  obtain ⟨hlen, hnc, hcm, hat⟩ := hr
  rcases A with _ | ⟨b, off, sp⟩
  · have hn : n = 0 := by
      rcases Nat.eq_zero_or_pos n with h | h
      · exact h
      · obtain ⟨_, _, e, _⟩ := hat h
        cases e
    subst hn
    have hts : ts = [] := List.eq_nil_of_length_eq_zero hlen
    subst hts
    refine (AnyE.slices_Clone_nil cloneLaysU 0 c w).mono ?_
    rintro e w1 ⟨rfl, rfl⟩
    exact ⟨_, rfl, ⟨rfl, [], World.ownsRow_nil _ _ _ _, fun i h => absurd h (by simp)⟩, .inl rfl, Below.refl _ _⟩
  · obtain ⟨i0, hi0, hz0, hz1, hz2⟩ := info_parts usageInfo
    rcases Nat.eq_zero_or_pos n with h0 | h0
    · subst h0
      have hts : ts = [] := List.eq_nil_of_length_eq_zero hlen
      subst hts
      exact cloneU_zero _ c w
    · obtain ⟨b', off', e, hb, hcell⟩ := hat h0
      injection e with e
      injection e with e1 e2 e3
      subst e1; subst e2; subst e3
      obtain ⟨cs, hl, hc, h1, h3⟩ := UsesV.cells n ts (by omega) hcell
      refine (AnyE.slices_Clone cloneLaysU i0 _ 4 40 hi0 hz0 hz1 hz2 rfl (by omega) Try.sizeOf41 b off n c cs w hl (Nat.le_trans hnc hcm) hbig hc h1).mono ?_
      rintro e w1 ⟨v', rfl, hown, hne, hb1⟩
      refine ⟨v', rfl, ⟨hlen, cs, hown, fun i hi => (h3 i hi (by omega)).keep fun q hq => hb1.cell hq⟩, .inr ?_, hb1⟩
      rcases hown.2 with ⟨e0, _⟩ | ⟨g, cap, cur, rfl, _⟩
      · exact absurd e0 hne
      · exact ⟨g, cap, rfl⟩

theorem OwnB.form {w : World} {base B : Nat} {g : Nat} {n m c : Nat} {ts : List UseD} (h : OwnB w base B (.slice (some ⟨g, 0, none⟩) m c) n ts) : m = n ∧ base ≤ g ∧ g < w.heap.size ∧ n ≤ c ∧ c ≤ maxLen := by
  obtain ⟨_, cs, hown, _⟩ := h
  rcases hown.2 with ⟨e0, _⟩ | ⟨g', cap, cur, e0, hb, hg, hn, hm, _⟩
  · cases e0
  · injection e0 with e1 e2 e3
    injection e1 with e1
    injection e1 with e1
    subst e1; subst e2; subst e3
    exact ⟨rfl, hb, (Array.getElem?_eq_some_iff.1 hg).1, hn, hm⟩
theorem OwnB.uses {w : World} {base B : Nat} {A : Option Addr} {n m c : Nat} {ts : List UseD} (h : OwnB w base B (.slice A m c) n ts) (hB : B ≤ w.heap.size) : m = n ∧ UsesV w w.heap.size A n c ts := by
  obtain ⟨hl, cs, hown, h3⟩ := h
  rcases hown.2 with ⟨e0, hn⟩ | ⟨g, cap, cur, e0, hb, hg, hn, hm, hs, ht⟩
  · injection e0 with e1 e2 e3
    subst e1; subst e2; subst e3
    subst hn
    exact ⟨rfl, hl, Nat.le_refl _, Nat.zero_le _, fun h => absurd h (by omega)⟩
  · injection e0 with e1 e2 e3
    subst e1; subst e2; subst e3
    refine ⟨rfl, hl, hn, hm, fun _ => ⟨g, 0, rfl, (Array.getElem?_eq_some_iff.1 hg).1, fun i hi => ?_⟩⟩
    obtain ⟨A', n', c', f0, f1, f2, f3, hr⟩ := h3 i hi
    refine ⟨?_, A', n', c', ?_, ?_, ?_, hr.more hB⟩
    · rw [show 0 + i * 4 = i * 4 from by omega, hown.cellAt _ (by omega)]; exact f0
    · rw [show 0 + i * 4 + 1 = i * 4 + 1 from by omega, hown.cellAt _ (by omega)]; exact f1
    · rw [show 0 + i * 4 + 1 + 1 = i * 4 + 2 from by omega, hown.cellAt _ (by omega)]; exact f2
    · rw [show 0 + i * 4 + 1 + 2 = i * 4 + 3 from by omega, hown.cellAt _ (by omega)]; exact f3

/-- what DeleteFunc returns -/
def DelU (ts : List UseD) (base B : Nat) (w : World) (e : Ending) (w' : World) : Prop :=
  ∃ v m, e = .returned v ∧ ((v = .slice none 0 0 ∧ m = 0) ∨ ∃ g c, v = .slice (some ⟨g, 0, none⟩) m c) ∧ OwnB w' base B v m ts ∧ Below base w w'
theorem filter_take_succU (p : UseD → Bool) (ts : List UseD) (j : Nat) (hj : j < ts.length) : (ts.take (j + 1)).filter p = (ts.take j).filter p ++ (if p ts[j] then [ts[j]] else []) := by
  rw [List.take_succ_eq_append_getElem hj, List.filter_append]
  congr 1
  by_cases h : p ts[j] <;> simp [h]
def idxU (p : UseD → Bool) (ts : List UseD) : Int := match ts.findIdx? p with
  | some i => (i : Int)
  | none => -1
theorem idxU_none {p : UseD → Bool} {ts : List UseD} (h : ∀ j (h : j < ts.length), p ts[j] = false) : idxU p ts = -1 := by
  have : ts.findIdx? p = none := by
    rw [List.findIdx?_eq_none_iff]
    intro x hx
    obtain ⟨j, hj, rfl⟩ := List.getElem_of_mem hx
    exact h j hj
  unfold idxU
  rw [this]
theorem idxU_some {p : UseD → Bool} {ts : List UseD} {k : Nat} (hk : k < ts.length) (h : ∀ j (h : j < ts.length), j < k → p ts[j] = false) (h1 : p ts[k] = true) : idxU p ts = k := by
  have : ts.findIdx? p = some k := by
    rw [List.findIdx?_eq_some_iff_getElem]
    exact ⟨hk, h1, fun j hj => by rw [h j (by omega) hj]; simp⟩
  unfold idxU
  rw [this]

theorem enters_take1 : Enters 53 := fun args w => by kernel_rfl
theorem take1_any (v : Int) (pb : Nat) (x : UseD) (A : Option Addr) (n c : Nat) (w : World) (hp : w.cell? ⟨pb, 0, none⟩ = some (.int .i64 v)) :
    Calls Try.prog 53 #[.agg #[.int .i64 x.v, .bool x.t.never, .int .u8 x.t.c, .slice A n c], .pointer (some ⟨pb, 0, none⟩)] w fun e w' => e = .returned (.bool (x.v == v)) ∧ Below w.heap.size w w' := by
  have hX := blk_new w #[.int .i64 x.v, .bool x.t.never, .int .u8 x.t.c, .slice A n c] 41
  have hb := below_box (w := w) (Obj.cells #[.int .i64 x.v, .bool x.t.never, .int .u8 x.t.c, .slice A n c] 41)
  have x0 : (w.alloc (Obj.cells #[.int .i64 x.v, .bool x.t.never, .int .u8 x.t.c, .slice A n c] 41)).cell? ⟨w.heap.size, 0, none⟩ = some (.int .i64 x.v) := hX.cell 0
  have x1 : (w.alloc (Obj.cells #[.int .i64 x.v, .bool x.t.never, .int .u8 x.t.c, .slice A n c] 41)).cell? ⟨pb, 0, none⟩ = some (.int .i64 v) := (hb.cell (p := ⟨pb, 0, none⟩) (block_lt_of_cell hp)).trans hp
  obtain ⟨d, hd⟩ : ∃ d, (x.v == v) = d := ⟨_, rfl⟩
  rw [hd]
  go_enter Try.func53, Try.ntmps53
  go_wp2_with fail
  try rw [hd]
  go_ret
  exact ⟨rfl, hb⟩

set_option maxHeartbeats 1000000 in
theorem indexV_any (v : Int) (pb : Nat) (A : Option Addr) (n c : Nat) (ts : List UseD) (w : World) (hr : UsesV w w.heap.size A n c ts) (hp : w.cell? ⟨pb, 0, none⟩ = some (.int .i64 v)) :
    Calls Try.prog 77 #[.slice A n c, .func (.func 53) #[] #[.pointer (some ⟨pb, 0, none⟩)]] w fun e w' => e = .returned (.int .i64 (idxU (fun x => x.v == v) ts)) ∧ Below w.heap.size w w' := by
  obtain ⟨hlen, hnc, hcm, hat⟩ := hr
  have Hlen := Lib.hid hlen
  have Hp := Lib.hid hp
  have Hat := Lib.hid hat
  clear hlen hp hat
  unfold maxLen at hcm
  go_enter Try.func77, Try.ntmps77
  go_wp2_with fail
  go_loopg [5, 8] n (fun g _ i wr => ∃ k : Nat, k ≤ n ∧ g = n - k ∧ i = .int .i64 k ∧ (∀ j (h : j < ts.length), j < k → (ts[j].v == v) = false) ∧ Below w.heap.size w wr)
  case atStart => exact ⟨0, Nat.zero_le _, rfl, rfl, fun j _ h => absurd h (by omega), Below.refl _ _⟩
  case round =>
    obtain ⟨k, hk, rfl, rfl, hno, hbel⟩ := hrel
    have Hno := Lib.hid hno
    clear hno
    by_cases hlt : k < n
    · obtain ⟨b, off, rfl, hb, hcell⟩ := Hat.out (by omega)
      have hk' : k < ts.length := by rw [Hlen.out]; exact hlt
      have h1 := (hcell k hk').keep hb (fun q hq => hbel.cell hq)
      obtain ⟨ev, A', n', c', e0, e1, e2, hr'⟩ := h1
      have hpw : Hid (wr.cell? ⟨pb, 0, none⟩ = some (.int .i64 v)) := Lib.hid ((hbel.cell (p := ⟨pb, 0, none⟩) (block_lt_of_cell Hp.out)).trans Hp.out)
      have Hr := Lib.hid hr'
      clear hr' hcell
      cases hpk : (ts[k].v == v)
      · have Hpk := Lib.hid hpk
        clear hpk
        go_wp2_with fail
        refine (take1_any v pb ts[k] A' n' c' wr hpw.out).mono ?_; rintro e w1 ⟨rfl, hb1⟩
        rw [Hpk.out]
        go_wp2_with fail
        go_roundg (n - (k + 1))
        case measure => omega
        case rel =>
          refine ⟨k + 1, by omega, rfl, by go_num, fun j hj hjk => ?_, stepB hbel hb1⟩
          rcases Nat.lt_or_ge j k with h | h
          · exact Hno.out j hj h
          · have : j = k := by omega
            subst this
            exact Hpk.out
      · have Hpk := Lib.hid hpk
        clear hpk
        have HF : Hid ((k : Int) = idxU (fun x => x.v == v) ts) := (idxU_some hk' Hno.out Hpk.out).symm
        go_wp2_with fail
        refine (take1_any v pb ts[k] A' n' c' wr hpw.out).mono ?_; rintro e w1 ⟨rfl, hb1⟩
        rw [Hpk.out]
        go_wp2_with fail
        go_ret
        exact ⟨ret_int HF.out, stepB hbel hb1⟩
    · have HF : Hid (-1 = idxU (fun x => x.v == v) ts) := (idxU_none (fun j hj => Hno.out j hj (by have := Hlen.out; omega))).symm
      go_wp2_with fail
      go_ret
      exact ⟨ret_int HF.out, hbel⟩

set_option maxHeartbeats 1000000 in
theorem deleteU_any (vv : Int) (pb : Nat) (base B n : Nat) (v : Value) (ts : List UseD) (w : World) (hown : OwnB w base B v n ts) (hB : B ≤ base) (hbase : base ≤ w.heap.size)
    (hp : w.cell? ⟨pb, 0, none⟩ = some (.int .i64 vv)) (hpb : pb < base) (hform : v = .slice none 0 0 ∨ ∃ g c, v = .slice (some ⟨g, 0, none⟩) n c) :
    Calls Try.prog 51 #[v, .func (.func 53) #[] #[.pointer (some ⟨pb, 0, none⟩)]] w (DelU (ts.filter fun t => !(t.v == vv)) base B w) := by
  obtain ⟨p, hpd⟩ : ∃ p : UseD → Bool, p = fun t => t.v == vv := ⟨_, rfl⟩
  have hpx : ∀ t : UseD, (t.v == vv) = p t := fun t => by rw [hpd]
  simp only [hpx]
  have Hpx := Lib.hid hpx
  have Hpd := Lib.hid hpd
  clear hpx hpd
  have Hown := Lib.hid hown
  have hlen := hown.1
  have Hlen := Lib.hid hlen
  have Hp := Lib.hid hp
  clear hlen hp
  -- is there one to be deleted?
  cases hfi : ts.findIdx? p with
  | none =>
    have hnone : ∀ t ∈ ts, p t = false := by
      intro t ht
      rw [List.findIdx?_eq_none_iff] at hfi
      exact hfi t ht
    have hfil : (ts.filter fun t => !p t) = ts := by
      rw [List.filter_eq_self]
      intro t ht
      rw [hnone t ht]; rfl
    have hidx : idxU p ts = -1 := by unfold idxU; rw [hfi]
    rw [hfil]
    have Hidx := Lib.hid hidx
    clear hfil hidx hnone hfi
    rcases hform with rfl | ⟨g, c, rfl⟩
    · have ht := (hown.uses (A := none) (m := 0) (c := 0) (Nat.le_trans hB hbase)).2
      have hn := (hown.uses (A := none) (m := 0) (c := 0) (Nat.le_trans hB hbase)).1
      subst hn
      clear hown
      go_enter Try.func51, Try.ntmps51
      go_wp2_with fail
      refine (indexV_any vv pb _ _ _ ts _ ht Hp.out).mono ?_; rintro e w1 ⟨rfl, hb1⟩
      rw [← Hpd.out, Hidx.out]
      go_wp2_with fail
      go_ret
      exact ⟨_, 0, rfl, .inl ⟨rfl, rfl⟩, ⟨Hlen.out, [], World.ownsRow_nil _ _ _ _, fun i hi => absurd hi (by have := Hlen.out; omega)⟩, hb1.mono hbase⟩
    · have ht := (hown.uses (Nat.le_trans hB hbase)).2
      clear hown
      go_enter Try.func51, Try.ntmps51
      go_wp2_with fail
      refine (indexV_any vv pb _ _ _ ts _ ht Hp.out).mono ?_; rintro e w1 ⟨rfl, hb1⟩
      rw [← Hpd.out, Hidx.out]
      go_wp2_with fail
      go_ret
      obtain ⟨_, cs, ho, h3⟩ := Hown.out
      exact ⟨_, n, rfl, .inr ⟨g, c, rfl⟩, ⟨Hlen.out, cs, ho.kept (below_grown hb1) (by simp [Value.ownBlock]), fun i hi => (h3 i hi).keep fun q hq => hb1.cell (by omega)⟩, hb1.mono hbase⟩
  | some i0 =>
    have hidx : idxU p ts = (i0 : Int) := by unfold idxU; rw [hfi]
    rw [List.findIdx?_eq_some_iff_getElem] at hfi
    obtain ⟨hi0, hpi, hbef⟩ := hfi
    have hin : i0 < n := by rw [← Hlen.out]; exact hi0
    obtain ⟨g, c, rfl⟩ : ∃ g c, v = .slice (some ⟨g, 0, none⟩) n c := by
      rcases hform with rfl | h
      · have := (hown.uses (A := none) (m := 0) (c := 0) (Nat.le_trans hB hbase)).1
        omega
      · exact h
    clear hform
    obtain ⟨_, hbg, hgl, hnc, hcm⟩ := hown.form
    unfold maxLen at hcm
    have ht := (hown.uses (Nat.le_trans hB hbase)).2
    have hk0 : ((ts.take i0).filter fun t => !p t) = ts.take i0 := by
      rw [List.filter_eq_self]
      intro t ht
      obtain ⟨j, hj, rfl⟩ := List.getElem_of_mem ht
      rw [List.getElem_take]
      have := hbef j (by rw [List.length_take] at hj; omega)
      simpa using this
    have hk1 : ((ts.take (i0 + 1)).filter fun t => !p t) = ts.take i0 := by
      rw [filter_take_succU _ _ _ hi0, hk0, hpi]
      simp
    have Hk1 := Lib.hid hk1
    have Hidx := Lib.hid hidx
    have hst := hown.2
    have Hst := Lib.hid hst
    clear hk0 hk1 hidx hbef hpi hown hst
    have hf := enters_take1
    unfold Enters at hf
    go_enter Try.func51, Try.ntmps51
    go_wp2_with fail
    refine (indexV_any vv pb _ _ _ ts _ ht Hp.out).mono ?_; rintro e w1 ⟨rfl, hb1⟩
    rw [← Hpd.out, Hidx.out]
    have hne1 : ((i0 : Int) == -1) = false := beq_eq_false_iff_ne.2 (by omega)
    go_wp2_with fail
    obtain ⟨cs0, ho0, h30⟩ := Hst.out
    have ho1 := ho0.kept (below_grown hb1) (by simp [Value.ownBlock])
    have h31 : ∀ i (h : i < ts.length), C4B w1 B cs0 i ts[i] := fun i hi => (h30 i hi).keep fun q hq => hb1.cell (by omega)
    clear ho0 h30 Hst Hown ht
    go_loopg [5, 6] (n - (i0 + 1)) (fun gg a b wr => ∃ (i j : Nat) (cs : List Value), j ≤ n ∧ i < j ∧ gg = n - j ∧ a = .int .i64 i ∧ b = .int .i64 j ∧ i = ((ts.take j).filter fun t => !p t).length ∧
      wr.ownsRow base 41 4 (.slice (some ⟨g, 0, none⟩) n c) n cs ∧ (∀ x (h : x < ((ts.take j).filter fun t => !p t).length), C4B wr B cs x ((ts.take j).filter fun t => !p t)[x]) ∧ (∀ y (h : y < ts.length), j ≤ y → C4B wr B cs y ts[y]) ∧ Below base w wr ∧ w.heap.size ≤ wr.heap.size)
    case atStart =>
      refine ⟨i0, i0 + 1, cs0, by omega, by omega, rfl, rfl, by go_num, ?_, ho1, ?_, fun y hy _ => h31 y hy, hb1.mono hbase, hb1.size⟩
      · rw [Hk1.out, List.length_take]; omega
      · rw [Hk1.out]
        intro x hx
        have hx' : x < ts.length := by rw [List.length_take] at hx; omega
        rw [List.getElem_take]
        exact h31 x hx'
    case round =>
      obtain ⟨i, j, cs, hj, hij, rfl, rfl, rfl, hi, ho, hpre, hsuf, hbel, hsz⟩ := hrel
      have Ho := Lib.hid ho
      have Hpre := Lib.hid hpre
      have Hsuf := Lib.hid hsuf
      have Hi := Lib.hid hi
      clear hpre hsuf hi ho ho1 h31
      by_cases hlt : j < n
      · have hj' : j < ts.length := by rw [Hlen.out]; exact hlt
        obtain ⟨A', m', d', c0, c1, c2, c3, hr'⟩ := (Hsuf.out j hj' (Nat.le_refl _)).cells Ho.out hlt
        have Hr := Lib.hid hr'
        clear hr'
        go_wp2_with fail
        have hra := Hr.out.below ((Below.refl B wr).alloc (Nat.le_trans hB (Nat.le_trans hbase hsz)) (Obj.cells #[.int .i64 ts[j].v, .bool ts[j].t.never, .int .u8 ts[j].t.c, .slice A' m' d'] 41))
        refine (take1_any vv pb ts[j] A' m' d' _ ((World.cell?_alloc_lt wr _ _ (by have := hbel.size; have := block_lt_of_cell Hp.out; show pb < wr.heap.size; omega)).trans ((hbel.cell (p := ⟨pb, 0, none⟩) hpb).trans Hp.out))).mono ?_; rintro e w2 ⟨rfl, hb2⟩
        rw [Hpx.out]
        have hb2' := hb2
        simp only [World.size_alloc] at hb2'
        have hvb : Blk w2 wr.heap.size 41 #[.int .i64 ts[j].v, .bool ts[j].t.never, .int .u8 ts[j].t.c, .slice A' m' d'] := by
          show w2.heap[wr.heap.size]? = _
          rw [hb2'.block _ (Nat.lt_succ_self _)]
          exact heap_alloc_new wr _
        have ho2 := (Ho.out.alloc (Obj.cells #[.int .i64 ts[j].v, .bool ts[j].t.never, .int .u8 ts[j].t.c, .slice A' m' d'] 41)).kept (below_grown hb2) (by simp [Value.ownBlock])
        have hbw : Below wr.heap.size wr w2 := ((Below.refl wr.heap.size wr).alloc (Nat.le_refl _) (Obj.cells #[.int .i64 ts[j].v, .bool ts[j].t.never, .int .u8 ts[j].t.c, .slice A' m' d'] 41)).trans (hb2.mono (by simp))
        have hkB : ∀ q : Addr, q.block < B → w2.cell? q = wr.cell? q := fun q hq => hbw.cell (by omega)
        have HkB := Lib.hid hkB
        have Ho2 := Lib.hid ho2
        have hsz2 : w.heap.size ≤ w2.heap.size := Nat.le_trans hsz hbw.size
        have hbel2 : Below base w w2 := hbel.trans (hbw.mono (by omega))
        have Hr2 := Lib.hid (Hr.out.keep hkB)
        clear hb2 hb2' ho2 hkB hra hbw hbel hsz c0 c1 c2 c3
        have hfs := filter_take_succU (fun t => !p t) ts j hj'
        cases hpj : p ts[j]
        · rw [hpj] at hfs
          simp only [Bool.not_false, if_true] at hfs
          have Hfs := Lib.hid hfs
          clear hfs hpj
          have hin2 : i < n := by omega
          have hcl : cs.length = n * 4 := Ho2.out.1
          have d0 : w2.cell? ⟨wr.heap.size, 0, none⟩ = some (.int .i64 ts[j].v) := hvb.cell 0
          have d1 : w2.cell? ⟨wr.heap.size, 1, none⟩ = some (.bool ts[j].t.never) := hvb.cell 1
          have d2 : w2.cell? ⟨wr.heap.size, 2, none⟩ = some (.int .u8 ts[j].t.c) := hvb.cell 2
          have d3 : w2.cell? ⟨wr.heap.size, 3, none⟩ = some (.slice A' m' d') := hvb.cell 3
          obtain ⟨y0, x0⟩ : ∃ y, w2.cell? ⟨g, i * 4, none⟩ = some y := ⟨_, by rw [Ho2.out.cellAt _ (by omega)]; exact List.getElem?_eq_getElem (by omega)⟩
          obtain ⟨y1, x1⟩ : ∃ y, w2.cell? ⟨g, i * 4 + 1, none⟩ = some y := ⟨_, by rw [Ho2.out.cellAt _ (by omega)]; exact List.getElem?_eq_getElem (by omega)⟩
          obtain ⟨y2, x2⟩ : ∃ y, w2.cell? ⟨g, i * 4 + 2, none⟩ = some y := ⟨_, by rw [Ho2.out.cellAt _ (by omega)]; exact List.getElem?_eq_getElem (by omega)⟩
          obtain ⟨y3, x3⟩ : ∃ y, w2.cell? ⟨g, i * 4 + 3, none⟩ = some y := ⟨_, by rw [Ho2.out.cellAt _ (by omega)]; exact List.getElem?_eq_getElem (by omega)⟩
          have f0 := Ho2.out.frozenAt (i * 4)
          have f3 := Ho2.out.frozenAt (i * 4 + 3)
          have f1 := Ho2.out.frozenAt (i * 4 + 1)
          have f2 := Ho2.out.frozenAt (i * 4 + 2)
          have Hcl := Lib.hid hcl
          clear hcl hvb
          go_wp2_with fail
          go_roundg (n - (j + 1))
          case measure => omega
          case rel =>
            have hs1 := (Ho2.out.stored (i * 4) (.int .i64 ts[j].v)).1
            have hs2 := (hs1.stored (i * 4 + 1) (.bool ts[j].t.never)).1
            have hs3 := (hs2.stored (i * 4 + 2) (.int .u8 ts[j].t.c)).1
            have hs4 := (hs3.stored (i * 4 + 3) (.slice A' m' d')).1
            have hkeep : ∀ q : Addr, q.block < B → ((((w2.setCell ⟨g, i * 4, none⟩ (.int .i64 ts[j].v)).setCell ⟨g, i * 4 + 1, none⟩ (.bool ts[j].t.never)).setCell ⟨g, i * 4 + 2, none⟩ (.int .u8 ts[j].t.c)).setCell ⟨g, i * 4 + 3, none⟩ (.slice A' m' d')).cell? q = w2.cell? q := by
              intro q hq
              rw [World.cell?_setCell_other _ _ _ _ (fun e => by subst e; simp at hq; omega), World.cell?_setCell_other _ _ _ _ (fun e => by subst e; simp at hq; omega), World.cell?_setCell_other _ _ _ _ (fun e => by subst e; simp at hq; omega), World.cell?_setCell_other _ _ _ _ (fun e => by subst e; simp at hq; omega)]
            have hout : ∀ k, k < i * 4 ∨ i * 4 + 4 ≤ k → ((((cs.set (i * 4) (.int .i64 ts[j].v)).set (i * 4 + 1) (.bool ts[j].t.never)).set (i * 4 + 2) (.int .u8 ts[j].t.c)).set (i * 4 + 3) (.slice A' m' d'))[k]? = cs[k]? := by
              intro k hk
              rw [List.getElem?_set_ne (by omega), List.getElem?_set_ne (by omega), List.getElem?_set_ne (by omega), List.getElem?_set_ne (by omega)]
            refine ⟨i + 1, j + 1, _, by omega, by omega, rfl, by go_num, by go_num, ?_, hs4, ?_, ?_, (((hbel2.setCell (by exact hbg) _).setCell (by exact hbg) _).setCell (by exact hbg) _).setCell (by exact hbg) _, by simpa using hsz2⟩
            · rw [Hfs.out, List.length_append, ← Hi.out]; rfl
            · rw [Hfs.out]
              intro x hx
              rw [List.length_append, ← Hi.out] at hx
              rcases Nat.lt_or_ge x i with h | h
              · rw [List.getElem_append_left (by rw [← Hi.out]; exact h)]
                exact (((Hpre.out x (by rw [← Hi.out]; exact h)).keep HkB.out).keep hkeep).congr fun k h1 h2 => hout k (by omega)
              · have hxi : x = i := by simp at hx; omega
                subst hxi
                rw [List.getElem_append_right (by rw [← Hi.out]; exact Nat.le_refl _)]
                have e0 : (([ts[j]] : List UseD)[x - ((ts.take j).filter fun t => !p t).length]'(by rw [← Hi.out]; simp)) = ts[j] := by
                  have : x - ((ts.take j).filter fun t => !p t).length = 0 := by rw [← Hi.out]; omega
                  simp [this]
                rw [e0]
                have hl := Hcl.out
                exact ⟨A', m', d', by rw [List.getElem?_set_ne (by omega), List.getElem?_set_ne (by omega), List.getElem?_set_ne (by omega), List.getElem?_set_self (by omega)], by rw [List.getElem?_set_ne (by omega), List.getElem?_set_ne (by omega), List.getElem?_set_self (by simp; omega)], by rw [List.getElem?_set_ne (by omega), List.getElem?_set_self (by simp; omega)], by rw [List.getElem?_set_self (by simp; omega)], Hr2.out.keep hkeep⟩
            · intro y hy hjy
              exact (((Hsuf.out y hy (by omega)).keep HkB.out).keep hkeep).congr fun k h1 h2 => hout k (by omega)
        · rw [hpj] at hfs
          simp only [Bool.not_true, Bool.false_eq_true, if_false, List.append_nil] at hfs
          have Hfs := Lib.hid hfs
          clear hfs hpj hvb
          go_wp2_with fail
          go_roundg (n - (j + 1))
          case measure => omega
          case rel =>
            refine ⟨i, j + 1, cs, by omega, by omega, rfl, rfl, by go_num, ?_, Ho2.out, ?_, fun y hy hjy => (Hsuf.out y hy (by omega)).keep HkB.out, hbel2, hsz2⟩
            · rw [Hfs.out]; exact Hi.out
            · rw [Hfs.out]
              intro x hx
              exact (Hpre.out x hx).keep HkB.out
      · have hjn : j = n := by omega
        subst hjn
        have hall : ts.take j = ts := List.take_of_length_le (by rw [Hlen.out]; exact Nat.le_refl _)
        have Hall := Lib.hid hall
        clear hall
        have hci : ¬ (c = i) := by omega
        have hclr := fun ty => run_clear_cells (P := Try.prog) wr 25 41 ty (.agg #[.int .i64 0, .bool false, .int .u8 0, .slice none 0 0]) #[.int .i64 0, .bool false, .int .u8 0, .slice none 0 0] Try.underlying25 Try.zeroValue41 rfl (by simp [Value.oneCell']) (by simp) g (i * 4) (j - i) (c - i) (by omega) (fun k hk => by
          have hk' : k < (j - i) * 4 := hk
          rw [Ho.out.cellAt _ (by omega), List.getElem?_eq_getElem (by rw [Ho.out.1]; omega)]; rfl) (fun k hk => Ho.out.frozenAt _)
        go_wp2_with fail
        go_ret
        obtain ⟨cs', hs1, hs2, hs3⟩ := ownsRow_setCells (Builtin.zeroCells #[.int .i64 0, .bool false, .int .u8 0, .slice none 0 0] (j - i)).toList cs (i * 4) wr Ho.out
        have hkeep : ∀ q : Addr, q.block < B → (wr.setCells g (i * 4) (Builtin.zeroCells #[.int .i64 0, .bool false, .int .u8 0, .slice none 0 0] (j - i)).toList).cell? q = wr.cell? q := by
          intro q hq
          rcases Nat.lt_or_ge q.block wr.heap.size with h | h
          · exact World.cell?_of_block (hs3.block q.block h (by simp; omega))
          · omega
        refine ⟨_, i, rfl, .inr ⟨g, c, rfl⟩, ⟨?_, _, ownsRow_cut hs1 (by omega), ?_⟩, hbel.grown hs3 (Nat.le_trans hbase hsz) (fun k hk => by injection hk with hk; omega)⟩
        · rw [← Hall.out]; exact Hi.out.symm
        · intro x hx
          have hx' : x < ((ts.take j).filter fun t => !p t).length := by rw [Hall.out]; exact hx
          have h1 := Hpre.out x hx'
          have hxi : x < i := by rw [Hi.out]; exact hx'
          have e1 : ((ts.take j).filter fun t => !p t)[x] = (ts.filter fun t => !p t)[x] := by
            congr 1
            rw [Hall.out]
          rw [e1] at h1
          exact ((h1.keep hkeep).congr fun k h2 h3 => hs2 k (by omega)).cut hxi

end Go.Proofs.Ytimlbpjdgnapoaa
