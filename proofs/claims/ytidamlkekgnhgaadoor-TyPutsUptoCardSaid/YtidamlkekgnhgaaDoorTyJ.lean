/- slices.Clone at types; rows of types of a call's own. -/
import Derived.Test.YtidamlkekgnhgaaDoorTyI
import Derived.Test.YtidamlkekgnhgaaDoorApp
import Derived.Shelf.SlicesE.Clone
namespace Go.Proofs.YtidamlkekgnhgaaDoor
set_option linter.unusedVariables false
set_option linter.unusedSimpArgs false
open Go.RowKit

theorem typeInfo : (Tryd.prog.info? 27).map (fun i => (i.zero, i.size, i.bytes)) = some (some (.agg #[.int .u8 0, .int .i64 0, .int .i64 0, .int .u8 0, .slice none 0 0]), 5, 56) := by kernel_rfl
def cloneRenT : Go.Shelf.Ren := ⟨fun | 41 => 80 | n => n, fun | 22 => 25 | 23 => 27 | 4 => 4 | n => n, fun | n => n⟩
theorem cloneLaysT : Go.Proofs.SlLaysE0.n41 Tryd.prog cloneRenT := {
  mixed := by kernel_rfl
  f41 := ⟨Tryd.f80.name, by decide, Tryd.func80.trans (congrArg some (by kernel_rfl))⟩
  t4 := Tryd.underlying4
  a4 := Tryd.isAgg4
  z4 := Tryd.sizeOf4
  v4 := Tryd.zeroValue4
  t22 := Tryd.underlying25
  a22 := Tryd.isAgg25
  z22 := Tryd.sizeOf25
  v22 := Tryd.zeroValue25 }

/-- five cells of a row read as a type, what is within in blocks of S -/
def C5 (w : World) (S : Nat → Prop) (cs : List Value) (x : Nat) (t : TyD) : Prop :=
  ∃ A n c, cs[x * 5]? = some (.int .u8 t.k) ∧ cs[x * 5 + 1]? = some (.int .i64 t.n) ∧ cs[x * 5 + 2]? = some (.int .i64 t.v) ∧ cs[x * 5 + 3]? = some (.int .u8 t.c) ∧ cs[x * 5 + 4]? = some (.slice A n c) ∧ TysS w S A n c t.l
theorem C5.keep {w w' : World} {S S' : Nat → Prop} {cs : List Value} {x : Nat} {t : TyD} (h : C5 w S cs x t) (hS : ∀ b, S b → S' b) (hk : ∀ p : Addr, S p.block → w'.cell? p = w.cell? p) : C5 w' S' cs x t := by
  obtain ⟨A, n, c, e0, e1, e2, e3, e4, hr⟩ := h
  exact ⟨A, n, c, e0, e1, e2, e3, e4, hr.keep hS hk⟩
theorem C5.congr {w : World} {S : Nat → Prop} {cs cs' : List Value} {x : Nat} {t : TyD} (h : C5 w S cs x t) (he : ∀ k, x * 5 ≤ k → k < x * 5 + 5 → cs'[k]? = cs[k]?) : C5 w S cs' x t := by
  obtain ⟨A, n, c, e0, e1, e2, e3, e4, hr⟩ := h
  exact ⟨A, n, c, by rw [he _ (by omega) (by omega)]; exact e0, by rw [he _ (by omega) (by omega)]; exact e1, by rw [he _ (by omega) (by omega)]; exact e2, by rw [he _ (by omega) (by omega)]; exact e3, by rw [he _ (by omega) (by omega)]; exact e4, hr⟩
theorem C5.cells {w : World} {S : Nat → Prop} {base : Nat} {e : TypeId} {g n c : Nat} {cs : List Value} {x : Nat} {t : TyD} (h : C5 w S cs x t) (hown : w.ownsRow base e 5 (.slice (some ⟨g, 0, none⟩) n c) n cs) (hx : x < n) : TyIn w S t g (0 + x * 5) := by
  obtain ⟨A, m, d, e0, e1, e2, e3, e4, hr⟩ := h
  rw [Nat.zero_add]
  exact tyIn_iff.2 ⟨by rw [hown.cellAt _ (by omega)]; exact e0, by rw [hown.cellAt _ (by omega)]; exact e1, by rw [hown.cellAt _ (by omega)]; exact e2, by rw [hown.cellAt _ (by omega)]; exact e3, A, m, d, by rw [hown.cellAt _ (by omega)]; exact e4, hr⟩

theorem TysV.cells {w : World} {B : Nat} {b off : Nat} : ∀ (m : Nat) (ts : List TyD), m ≤ ts.length → (∀ i (h : i < ts.length), TyAt w B ts[i] b (off + i * 5)) →
    ∃ cs : List Value, cs.length = m * 5 ∧ (∀ j u, cs[j]? = some u → w.cell? ⟨b, off + j, none⟩ = some u) ∧ (∀ u ∈ cs, u.oneCell' = true) ∧ ∀ i (h : i < ts.length), i < m → C5 w (fun b => b < B) cs i ts[i]
  | 0, ts, _, _ => ⟨[], rfl, fun j u h => by simp at h, fun u h => by simp at h, fun i _ h => absurd h (by omega)⟩
  | m + 1, ts, hm, hat => by
    obtain ⟨cs, hl, hc, h1, h3⟩ := TysV.cells m ts (by omega) hat
    obtain ⟨e0, e1, e2, e3, A, n, c, e4, hr⟩ := tyAt_iff.1 (hat m (by omega))
    refine ⟨cs ++ [.int .u8 ts[m].k, .int .i64 ts[m].n, .int .i64 ts[m].v, .int .u8 ts[m].c, .slice A n c], by simp [hl]; omega, fun j u hu => ?_, fun u hu => ?_, fun i hi him => ?_⟩
    · rw [List.getElem?_append] at hu
      split at hu
      · exact hc j u hu
      · rename_i hj
        have hj3 : j - cs.length < 5 := by
          have := (List.getElem?_eq_some_iff.1 hu).1
          simpa using this
        have : j = m * 5 ∨ j = m * 5 + 1 ∨ j = m * 5 + 2 ∨ j = m * 5 + 3 ∨ j = m * 5 + 4 := by omega
        rcases this with rfl | rfl | rfl | rfl | rfl
        · rw [hl, Nat.sub_self] at hu
          simp at hu
          rw [← hu]; exact e0
        · rw [hl, show m * 5 + 1 - m * 5 = 1 from by omega] at hu
          simp at hu
          rw [← hu, show off + (m * 5 + 1) = off + m * 5 + 1 from by omega]; exact e1
        · rw [hl, show m * 5 + 2 - m * 5 = 2 from by omega] at hu
          simp at hu
          rw [← hu, show off + (m * 5 + 2) = off + m * 5 + 2 from by omega]; exact e2
        · rw [hl, show m * 5 + 3 - m * 5 = 3 from by omega] at hu
          simp at hu
          rw [← hu, show off + (m * 5 + 3) = off + m * 5 + 3 from by omega]; exact e3
        · rw [hl, show m * 5 + 4 - m * 5 = 4 from by omega] at hu
          simp at hu
          rw [← hu, show off + (m * 5 + 4) = off + m * 5 + 4 from by omega]; exact e4
    · simp only [List.mem_append, List.mem_cons, List.not_mem_nil, or_false] at hu
      rcases hu with hu | rfl | rfl | rfl | rfl | rfl
      · exact h1 u hu
      · rfl
      · rfl
      · rfl
      · rfl
      · rfl
    · rcases Nat.lt_or_ge i m with h | h
      · exact (h3 i hi h).congr fun k h4 h5 => List.getElem?_append_left (by omega)
      · have : i = m := by omega
        subst this
        refine ⟨A, n, c, ?_, ?_, ?_, ?_, ?_, hr.in_⟩
        · rw [List.getElem?_append_right (by omega), hl, Nat.sub_self]; rfl
        · rw [List.getElem?_append_right (by omega), hl, show i * 5 + 1 - i * 5 = 1 from by omega]; rfl
        · rw [List.getElem?_append_right (by omega), hl, show i * 5 + 2 - i * 5 = 2 from by omega]; rfl
        · rw [List.getElem?_append_right (by omega), hl, show i * 5 + 3 - i * 5 = 3 from by omega]; rfl
        · rw [List.getElem?_append_right (by omega), hl, show i * 5 + 4 - i * 5 = 4 from by omega]; rfl

/-- a row of types of the call's own; what is within number i lies in blocks of S i -/
def OwnTy (w : World) (base : Nat) (v : Value) (n : Nat) (ts : List TyD) (S : Nat → Nat → Prop) : Prop :=
  ts.length = n ∧ ∃ cs, w.ownsRow base 27 5 v n cs ∧ ∀ i (h : i < ts.length), C5 w (S i) cs i ts[i]
def CloneTy (ts : List TyD) (n : Nat) (w : World) (e : Ending) (w' : World) : Prop :=
  ∃ v, e = .returned v ∧ OwnTy w' w.heap.size v n ts (fun _ b => b < w.heap.size) ∧ (v = .slice none 0 0 ∨ ∃ g c, v = .slice (some ⟨g, 0, none⟩) n c) ∧ Below w.heap.size w w'

set_option maxHeartbeats 400000 in
theorem cloneTy_zero (a : Addr) (c : Nat) (w : World) :
    Calls Tryd.prog 80 #[.slice (some a) 0 c] w (CloneTy [] 0 w) := by
  obtain ⟨i0, hi0, hz0, hz1, hz2⟩ := info_parts typeInfo
  have hq := fun w a n c n' c' => Lib.run_eql_slice_nil (P := Tryd.prog) w 25 27 a n c n' c' Tryd.underlying25
  go_enter Tryd.func80, Tryd.ntmps80
  go_wp2_with (at_builtin; refine wpList_append_own _ rfl _ _ 25 rfl w.heap.size 27 i0 _ 5 56 Tryd.underlying25 hi0 hz0 hz1 hz2 rfl (by omega) _ 0 [] rfl (World.ownsRow_lit w #[] 0 (Nat.le_refl _) (Nat.zero_le _) rfl) a 0 c [] rfl rfl (fun j u h => by simp at h) (fun u h => by simp at h) (Nat.zero_le _) (by omega) (by simp) ?_; intro v1 w1 hown1 hg1 hnil)
  go_ret
  refine ⟨v1, rfl, ⟨rfl, [], hown1, fun i h => absurd h (by simp)⟩, ?_, ((Below.refl _ _).alloc (Nat.le_refl _) _).grown hg1 (by simp) (fun k hk => by have hk' : some w.heap.size = some k := hk; injection hk' with h; omega)⟩
  rcases hown1.2 with ⟨e0, _⟩ | ⟨g, cap, cur, rfl, _⟩
  · exact .inl e0
  · exact .inr ⟨g, cap, rfl⟩
set_option maxHeartbeats 1000000 in
theorem cloneTy_any (A : Option Addr) (n c : Nat) (ts : List TyD) (w : World) (hr : TysV w w.heap.size A n c ts) (hbig : n * 56 ≤ 140737488355328) :
    Calls Tryd.prog 80 #[.slice A n c] w (CloneTy ts n w) := by
  have hat := hr.at_
  obtain ⟨hlen, hnc, hcm, hat0⟩ := hr
  rcases A with _ | ⟨b, off, sp⟩
  · have hn : n = 0 := by
      rcases Nat.eq_zero_or_pos n with h | h
      · exact h
      · obtain ⟨_, _, e, _⟩ := hat h
        cases e
    subst hn
    have hts : ts = [] := List.eq_nil_of_length_eq_zero hlen
    subst hts
    refine (AnyE.slices_Clone_nil cloneLaysT 0 c w).mono ?_
    rintro e w1 ⟨rfl, rfl⟩
    exact ⟨_, rfl, ⟨rfl, [], World.ownsRow_nil _ _ _ _, fun i h => absurd h (by simp)⟩, .inl rfl, Below.refl _ _⟩
  · obtain ⟨i0, hi0, hz0, hz1, hz2⟩ := info_parts typeInfo
    rcases Nat.eq_zero_or_pos n with h0 | h0
    · subst h0
      have hts : ts = [] := List.eq_nil_of_length_eq_zero hlen
      subst hts
      exact cloneTy_zero _ c w
    · obtain ⟨b', off', e, hb, hcell⟩ := hat h0
      injection e with e
      injection e with e1 e2 e3
      subst e1; subst e2; subst e3
      obtain ⟨cs, hl, hc, h1, h3⟩ := TysV.cells n ts (by omega) hcell
      refine (AnyE.slices_Clone cloneLaysT i0 _ 5 56 hi0 hz0 hz1 hz2 rfl (by omega) Tryd.sizeOf27 b off n c cs w hl (Nat.le_trans hnc hcm) hbig hc h1).mono ?_
      rintro e w1 ⟨v', rfl, hown, hne, hb1⟩
      refine ⟨v', rfl, ⟨hlen, cs, hown, fun i hi => (h3 i hi (by omega)).keep (fun _ h => h) fun q hq => hb1.cell hq⟩, .inr ?_, hb1⟩
      rcases hown.2 with ⟨e0, _⟩ | ⟨g, cap, cur, rfl, _⟩
      · exact absurd e0 hne
      · exact ⟨g, cap, rfl⟩

end Go.Proofs.YtidamlkekgnhgaaDoor
