/- Contracts of slices.Clone and slices.DeleteFunc at terms. -/
import Derived.Test.YtimlbpjdgnapoaaTermD
import Derived.Shelf.SlicesE.Clone
namespace Go.Proofs.Ytimlbpjdgnapoaa
set_option linter.unusedVariables false
set_option linter.unusedSimpArgs false
open Go.RowKit

def cloneRen : Go.Shelf.Ren := ⟨fun | 41 => 71 | n => n, fun | 22 => 84 | 23 => 37 | 4 => 4 | n => n, fun | n => n⟩
theorem cloneLays : Go.Proofs.SlLaysE0.n41 Try.prog cloneRen := {
  mixed := by kernel_rfl
  f41 := ⟨Try.f71.name, by decide, Try.func71.trans (congrArg some (by kernel_rfl))⟩
  t4 := Try.underlying4
  a4 := Try.isAgg4
  z4 := Try.sizeOf4
  v4 := Try.zeroValue4
  t22 := Try.underlying84
  a22 := Try.isAgg84
  z22 := Try.sizeOf84
  v22 := Try.zeroValue84 }
theorem termInfo : (Try.prog.info? 37).map (fun i => (i.zero, i.size, i.bytes)) = some (some (.agg #[.bool false, .int .u8 0, .slice none 0 0]), 3, 32) := by kernel_rfl

/-- three cells of a row read as a term, its variables below block B -/
def C3 (w : World) (B : Nat) (cs : List Value) (x : Nat) (t : TermD) : Prop :=
  ∃ A n c, cs[x * 3]? = some (.bool t.never) ∧ cs[x * 3 + 1]? = some (.int .u8 t.c) ∧ cs[x * 3 + 2]? = some (.slice A n c) ∧ RdI .i64 w B A n c t.vars
theorem C3.keep {w w' : World} {B : Nat} {cs : List Value} {x : Nat} {t : TermD} (h : C3 w B cs x t) (hk : ∀ p : Addr, p.block < B → w'.cell? p = w.cell? p) : C3 w' B cs x t := by
  obtain ⟨A, n, c, e0, e1, e2, hr⟩ := h
  exact ⟨A, n, c, e0, e1, e2, hr.keep hk⟩
theorem C3.more {w : World} {B B' : Nat} {cs : List Value} {x : Nat} {t : TermD} (h : C3 w B cs x t) (hB : B ≤ B') : C3 w B' cs x t := by
  obtain ⟨A, n, c, e0, e1, e2, hr⟩ := h
  exact ⟨A, n, c, e0, e1, e2, hr.more hB⟩

/-- the cells of a slice of terms, as a list -/
theorem TermsV.cells {w : World} {B : Nat} {b off : Nat} : ∀ (m : Nat) (ts : List TermD), m ≤ ts.length → (∀ i (h : i < ts.length), TermAt w B b (off + i * 3) ts[i]) →
    ∃ cs : List Value, cs.length = m * 3 ∧ (∀ j u, cs[j]? = some u → w.cell? ⟨b, off + j, none⟩ = some u) ∧ (∀ u ∈ cs, u.oneCell' = true) ∧ ∀ i (h : i < ts.length), i < m → C3 w B cs i ts[i]
  | 0, ts, _, _ => ⟨[], rfl, fun j u h => by simp at h, fun u h => by simp at h, fun i _ h => absurd h (by omega)⟩
  | m + 1, ts, hm, hat => by
    obtain ⟨cs, hl, hc, h1, h3⟩ := TermsV.cells m ts (by omega) hat
    obtain ⟨A, n, c, e0, e1, e2, hr⟩ := hat m (by omega)
    refine ⟨cs ++ [.bool ts[m].never, .int .u8 ts[m].c, .slice A n c], by simp [hl]; omega, fun j u hu => ?_, fun u hu => ?_, fun i hi him => ?_⟩
    · rw [List.getElem?_append] at hu
      split at hu
      · exact hc j u hu
      · rename_i hj
        have hj3 : j - cs.length < 3 := by
          have := (List.getElem?_eq_some_iff.1 hu).1
          simpa using this
        have : j = m * 3 ∨ j = m * 3 + 1 ∨ j = m * 3 + 2 := by omega
        rcases this with rfl | rfl | rfl
        · rw [hl, Nat.sub_self] at hu
          simp at hu
          rw [← hu]; exact e0
        · rw [hl, show m * 3 + 1 - m * 3 = 1 from by omega] at hu
          simp at hu
          rw [← hu, show off + (m * 3 + 1) = off + m * 3 + 1 from by omega]; exact e1
        · rw [hl, show m * 3 + 2 - m * 3 = 2 from by omega] at hu
          simp at hu
          rw [← hu, show off + (m * 3 + 2) = off + m * 3 + 2 from by omega]; exact e2
    · simp only [List.mem_append, List.mem_cons, List.not_mem_nil, or_false] at hu
      rcases hu with hu | rfl | rfl | rfl
      · exact h1 u hu
      · rfl
      · rfl
      · rfl
    · rcases Nat.lt_or_ge i m with h | h
      · obtain ⟨A', n', c', f0, f1, f2, hr'⟩ := h3 i hi h
        exact ⟨A', n', c', by rw [List.getElem?_append_left (by omega)]; exact f0, by rw [List.getElem?_append_left (by omega)]; exact f1, by rw [List.getElem?_append_left (by omega)]; exact f2, hr'⟩
      · have : i = m := by omega
        subst this
        refine ⟨A, n, c, ?_, ?_, ?_, hr⟩
        · rw [List.getElem?_append_right (by omega), hl, Nat.sub_self]; rfl
        · rw [List.getElem?_append_right (by omega), hl, show i * 3 + 1 - i * 3 = 1 from by omega]; rfl
        · rw [List.getElem?_append_right (by omega), hl, show i * 3 + 2 - i * 3 = 2 from by omega]; rfl

/-- a row of terms of the call's own -/
def OwnT (w : World) (base B : Nat) (v : Value) (n : Nat) (ts : List TermD) : Prop :=
  ts.length = n ∧ ∃ cs, w.ownsRow base 37 3 v n cs ∧ ∀ i (h : i < ts.length), C3 w B cs i ts[i]

/-- what Clone returns -/
def CloneT (ts : List TermD) (n : Nat) (w : World) (e : Ending) (w' : World) : Prop :=
  ∃ v, e = .returned v ∧ OwnT w' w.heap.size w.heap.size v n ts ∧ (v = .slice none 0 0 ∨ ∃ g c, v = .slice (some ⟨g, 0, none⟩) n c) ∧ Below w.heap.size w w'

set_option maxHeartbeats 400000 in
theorem clone_zero (a : Addr) (c : Nat) (w : World) :
    Calls Try.prog 71 #[.slice (some a) 0 c] w (CloneT [] 0 w) := by
  obtain ⟨i0, hi0, hz0, hz1, hz2⟩ := info_parts termInfo
  have hq := fun w a n c n' c' => Lib.run_eql_slice_nil (P := Try.prog) w 84 37 a n c n' c' Try.underlying84
  go_enter Try.func71, Try.ntmps71
  go_wp2_with (at_builtin; refine wpList_append_own _ rfl _ _ 84 rfl w.heap.size 37 i0 _ 3 32 Try.underlying84 hi0 hz0 hz1 hz2 rfl (by omega) _ 0 [] rfl (World.ownsRow_lit w #[] 0 (Nat.le_refl _) (Nat.zero_le _) rfl) a 0 c [] rfl rfl (fun j u h => by simp at h) (fun u h => by simp at h) (Nat.zero_le _) (by omega) (by simp) ?_; intro v1 w1 hown1 hg1 hnil)
  go_ret
  refine ⟨v1, rfl, ⟨rfl, [], hown1, fun i h => absurd h (by simp)⟩, ?_, ((Below.refl _ _).alloc (Nat.le_refl _) _).grown hg1 (by simp) (fun k hk => by have hk' : some w.heap.size = some k := hk; injection hk' with h; omega)⟩
  rcases hown1.2 with ⟨e0, _⟩ | ⟨g, cap, cur, rfl, _⟩
  · exact .inl e0
  · exact .inr ⟨g, cap, rfl⟩

theorem clone_any (A : Option Addr) (n c : Nat) (ts : List TermD) (w : World) (hr : TermsV w w.heap.size A n c ts) (hbig : n * 32 ≤ 140737488355328) :
    Calls Try.prog 71 #[.slice A n c] w (CloneT ts n w) := by
  obtain ⟨hlen, hnc, hcm, hat⟩ := hr
  rcases A with _ | ⟨b, off, sp⟩
  · have hn : n = 0 := by
      rcases Nat.eq_zero_or_pos n with h | h
      · exact h
      · obtain ⟨_, _, e, _⟩ := hat h
        cases e
    subst hn
    have hts : ts = [] := List.eq_nil_of_length_eq_zero hlen
    subst hts
    refine (AnyE.slices_Clone_nil cloneLays 0 c w).mono ?_
    rintro e w1 ⟨rfl, rfl⟩
    exact ⟨_, rfl, ⟨rfl, [], World.ownsRow_nil _ _ _ _, fun i h => absurd h (by simp)⟩, .inl rfl, Below.refl _ _⟩
  · obtain ⟨i0, hi0, hz0, hz1, hz2⟩ := info_parts termInfo
    rcases Nat.eq_zero_or_pos n with h0 | h0
    · subst h0
      have hts : ts = [] := List.eq_nil_of_length_eq_zero hlen
      subst hts
      exact clone_zero _ c w
    · obtain ⟨b', off', e, hb, hcell⟩ := hat h0
      injection e with e
      injection e with e1 e2 e3
      subst e1; subst e2; subst e3
      obtain ⟨cs, hl, hc, h1, h3⟩ := TermsV.cells n ts (by omega) hcell
      refine (AnyE.slices_Clone cloneLays i0 _ 3 32 hi0 hz0 hz1 hz2 rfl (by omega) Try.sizeOf37 b off n c cs w hl (Nat.le_trans hnc hcm) hbig hc h1).mono ?_
      rintro e w1 ⟨v', rfl, hown, hne, hb1⟩
      refine ⟨v', rfl, ⟨hlen, cs, hown, fun i hi => (h3 i hi (by omega)).keep fun q hq => hb1.cell hq⟩, .inr ?_, hb1⟩
      rcases hown.2 with ⟨e0, _⟩ | ⟨g, cap, cur, rfl, _⟩
      · exact absurd e0 hne
      · exact ⟨g, cap, rfl⟩

theorem OwnT.form {w : World} {base B : Nat} {g : Nat} {n m c : Nat} {ts : List TermD} (h : OwnT w base B (.slice (some ⟨g, 0, none⟩) m c) n ts) : m = n ∧ base ≤ g ∧ g < w.heap.size ∧ n ≤ c ∧ c ≤ maxLen := by
  obtain ⟨_, cs, hown, _⟩ := h
  rcases hown.2 with ⟨e0, _⟩ | ⟨g', cap, cur, e0, hb, hg, hn, hm, _⟩
  · cases e0
  · injection e0 with e1 e2 e3
    injection e1 with e1
    injection e1 with e1
    subst e1; subst e2; subst e3
    exact ⟨rfl, hb, (Array.getElem?_eq_some_iff.1 hg).1, hn, hm⟩
theorem OwnT.terms {w : World} {base B : Nat} {A : Option Addr} {n m c : Nat} {ts : List TermD} (h : OwnT w base B (.slice A m c) n ts) (hB : B ≤ w.heap.size) : m = n ∧ TermsV w w.heap.size A n c ts := by
  obtain ⟨hl, cs, hown, h3⟩ := h
  rcases hown.2 with ⟨e0, hn⟩ | ⟨g, cap, cur, e0, hb, hg, hn, hm, hs, ht⟩
  · injection e0 with e1 e2 e3
    subst e1; subst e2; subst e3
    subst hn
    exact ⟨rfl, hl, Nat.le_refl _, Nat.zero_le _, fun h => absurd h (by omega)⟩
  · injection e0 with e1 e2 e3
    subst e1; subst e2; subst e3
    refine ⟨rfl, hl, hn, hm, fun _ => ⟨g, 0, rfl, (Array.getElem?_eq_some_iff.1 hg).1, fun i hi => ?_⟩⟩
    obtain ⟨A', n', c', f0, f1, f2, hr⟩ := h3 i hi
    refine ⟨A', n', c', ?_, ?_, ?_, hr.more hB⟩
    · rw [show 0 + i * 3 = i * 3 from by omega, hown.cellAt _ (by omega)]; exact f0
    · rw [show 0 + i * 3 + 1 = i * 3 + 1 from by omega, hown.cellAt _ (by omega)]; exact f1
    · rw [show 0 + i * 3 + 2 = i * 3 + 2 from by omega, hown.cellAt _ (by omega)]; exact f2

/-- what DeleteFunc returns -/
def DelT (ts : List TermD) (base B : Nat) (w : World) (e : Ending) (w' : World) : Prop :=
  ∃ v m, e = .returned v ∧ ((v = .slice none 0 0 ∧ m = 0) ∨ ∃ g c, v = .slice (some ⟨g, 0, none⟩) m c) ∧ OwnT w' base B v m ts ∧ Below base w w'

theorem filter_take_succ (p : TermD → Bool) (ts : List TermD) (j : Nat) (hj : j < ts.length) : (ts.take (j + 1)).filter p = (ts.take j).filter p ++ (if p ts[j] then [ts[j]] else []) := by
  rw [List.take_succ_eq_append_getElem hj, List.filter_append]
  congr 1
  by_cases h : p ts[j] <;> simp [h]

end Go.Proofs.Ytimlbpjdgnapoaa
