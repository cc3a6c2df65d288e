/- Types whose memory lies in given blocks; usufructref06.May. -/
import Derived.Test.YtidamlkekgnhgaaDoorTyH
namespace Go.Proofs.YtidamlkekgnhgaaDoor
set_option linter.unusedVariables false
set_option linter.unusedSimpArgs false
open Go.RowKit

mutual
/-- a type in five cells, all that is within in blocks that S names -/
def TyIn (w : World) (S : Nat → Prop) : TyD → Nat → Nat → Prop
  | .mk k n v c l, b, off => w.cell? ⟨b, off, none⟩ = some (.int .u8 k) ∧ w.cell? ⟨b, off + 1, none⟩ = some (.int .i64 n) ∧ w.cell? ⟨b, off + 2, none⟩ = some (.int .i64 v) ∧ w.cell? ⟨b, off + 3, none⟩ = some (.int .u8 c) ∧
    ∃ A m cp, w.cell? ⟨b, off + 4, none⟩ = some (.slice A m cp) ∧ l.length = m ∧ m ≤ cp ∧ cp ≤ maxLen ∧ (0 < m → ∃ b' off', A = some ⟨b', off', none⟩ ∧ S b' ∧ RowIn w S l b' off')
def RowIn (w : World) (S : Nat → Prop) : List TyD → Nat → Nat → Prop
  | [], _, _ => True
  | t :: r, b, off => TyIn w S t b off ∧ RowIn w S r b (off + 5)
end
/-- a slice of types, all in blocks that S names -/
def TysS (w : World) (S : Nat → Prop) (A : Option Addr) (m cp : Nat) (l : List TyD) : Prop :=
  l.length = m ∧ m ≤ cp ∧ cp ≤ maxLen ∧ (0 < m → ∃ b off, A = some ⟨b, off, none⟩ ∧ S b ∧ RowIn w S l b off)
theorem tyIn_iff {w : World} {S : Nat → Prop} {t : TyD} {b off : Nat} : TyIn w S t b off ↔ w.cell? ⟨b, off, none⟩ = some (.int .u8 t.k) ∧ w.cell? ⟨b, off + 1, none⟩ = some (.int .i64 t.n) ∧ w.cell? ⟨b, off + 2, none⟩ = some (.int .i64 t.v) ∧ w.cell? ⟨b, off + 3, none⟩ = some (.int .u8 t.c) ∧
    ∃ A m cp, w.cell? ⟨b, off + 4, none⟩ = some (.slice A m cp) ∧ TysS w S A m cp t.l := by
  cases t
  rw [TyIn]
  exact Iff.rfl

mutual
theorem TyIn.keep {w w' : World} {S S' : Nat → Prop} (hS : ∀ b, S b → S' b) (hk : ∀ p : Addr, S p.block → w'.cell? p = w.cell? p) : ∀ (t : TyD) (b off : Nat), S b → TyIn w S t b off → TyIn w' S' t b off
  | .mk k n v c l, b, off, hb, h => by
    rw [TyIn] at h ⊢
    obtain ⟨h0, h1, h2, h3, A, m, cp, h4, e1, e2, e3, e4⟩ := h
    refine ⟨(hk _ hb).trans h0, (hk _ hb).trans h1, (hk _ hb).trans h2, (hk _ hb).trans h3, A, m, cp, (hk _ hb).trans h4, e1, e2, e3, fun hm => ?_⟩
    obtain ⟨b', off', e, hb', hr⟩ := e4 hm
    exact ⟨b', off', e, hS _ hb', RowIn.keep hS hk l b' off' hb' hr⟩
theorem RowIn.keep {w w' : World} {S S' : Nat → Prop} (hS : ∀ b, S b → S' b) (hk : ∀ p : Addr, S p.block → w'.cell? p = w.cell? p) : ∀ (l : List TyD) (b off : Nat), S b → RowIn w S l b off → RowIn w' S' l b off
  | [], _, _, _, _ => by rw [RowIn]; trivial
  | t :: r, b, off, hb, h => by
    rw [RowIn] at h ⊢
    exact ⟨TyIn.keep hS hk t b off hb h.1, RowIn.keep hS hk r b (off + 5) hb h.2⟩
end
theorem RowIn.get {w : World} {S : Nat → Prop} : ∀ {l : List TyD} {b off : Nat}, RowIn w S l b off → ∀ i (h : i < l.length), TyIn w S l[i] b (off + i * 5)
  | t :: r, b, off, h, 0, _ => by
    rw [RowIn] at h
    rw [Nat.zero_mul, Nat.add_zero]
    exact h.1
  | t :: r, b, off, h, i + 1, hi => by
    rw [RowIn] at h
    have := RowIn.get h.2 i (by simpa using hi)
    rw [show off + (i + 1) * 5 = off + 5 + i * 5 from by omega]
    exact this
theorem RowIn.of {w : World} {S : Nat → Prop} : ∀ {l : List TyD} {b off : Nat}, (∀ i (h : i < l.length), TyIn w S l[i] b (off + i * 5)) → RowIn w S l b off
  | [], _, _, _ => by rw [RowIn]; trivial
  | t :: r, b, off, h => by
    rw [RowIn]
    have h0 := h 0 (by simp)
    rw [Nat.zero_mul, Nat.add_zero] at h0
    refine ⟨h0, RowIn.of fun i hi => ?_⟩
    have := h (i + 1) (by simpa using hi)
    rw [show off + (i + 1) * 5 = off + 5 + i * 5 from by omega] at this
    exact this
mutual
theorem tyIn_lt {w : World} {B : Nat} : ∀ (t : TyD) (b off : Nat), TyIn w (fun b => b < B) t b off ↔ TyAt w B t b off
  | .mk k n v c l, b, off => by
    rw [TyIn, TyAt]
    have h := fun b' off' => rowIn_lt (w := w) (B := B) l b' off'
    simp only [h]
theorem rowIn_lt {w : World} {B : Nat} : ∀ (l : List TyD) (b off : Nat), RowIn w (fun b => b < B) l b off ↔ TyRow w B l b off
  | [], _, _ => by rw [RowIn, TyRow]
  | t :: r, b, off => by rw [RowIn, TyRow, tyIn_lt t b off, rowIn_lt r b (off + 5)]
end
section
variable {w w' : World} {S S' : Nat → Prop} {A : Option Addr} {m cp B : Nat} {l : List TyD}
theorem TysS.keep (h : TysS w S A m cp l) (hS : ∀ b, S b → S' b) (hk : ∀ p : Addr, S p.block → w'.cell? p = w.cell? p) : TysS w' S' A m cp l := by
  obtain ⟨h1, h2, h3, h4⟩ := h
  refine ⟨h1, h2, h3, fun hm => ?_⟩
  obtain ⟨b, off, e, hb, hr⟩ := h4 hm
  exact ⟨b, off, e, hS _ hb, RowIn.keep hS hk l b off hb hr⟩
theorem TysS.mono (h : TysS w S A m cp l) (hS : ∀ b, S b → S' b) : TysS w S' A m cp l := h.keep hS fun _ _ => rfl
theorem tysS_lt : TysS w (fun b => b < B) A m cp l ↔ TysV w B A m cp l := by
  unfold TysS TysV
  simp only [rowIn_lt]
theorem TysS.lt (h : TysS w S A m cp l) (hS : ∀ b, S b → b < B) : TysV w B A m cp l := tysS_lt.1 (h.mono hS)
theorem TysV.in_ (h : TysV w B A m cp l) : TysS w (fun b => b < B) A m cp l := tysS_lt.2 h
theorem TysS.len (h : TysS w S A m cp l) : l.length = m := h.1
theorem TysS.nil : TysS w S none 0 0 [] := ⟨rfl, Nat.le_refl _, Nat.zero_le _, fun h => absurd h (by omega)⟩
theorem TysS.at_ (h : TysS w S A m cp l) (hm : 0 < m) : ∃ b off, A = some ⟨b, off, none⟩ ∧ S b ∧ ∀ i (h : i < l.length), TyIn w S l[i] b (off + i * 5) := by
  obtain ⟨b, off, e, hb, hr⟩ := h.2.2.2 hm
  exact ⟨b, off, e, hb, hr.get⟩
end

set_option maxRecDepth 100000 in
set_option maxHeartbeats 2000000 in
theorem refTyMay_any (t : TyD) (x : Value) (w : World) (h : TyV w w.heap.size x t) :
    Calls Tryd.prog 20 #[x] w fun e w' => e = .returned (.int .i64 (mayTE t)) ∧ Below w.heap.size w w' := by
  obtain ⟨A, m, cp, rfl, hl⟩ := h
  have hbx := below_box (w := w) (Obj.cells #[.int .u8 t.k, .int .i64 t.n, .int .i64 t.v, .int .u8 t.c, .slice A m cp] 27)
  have hz := blk_new w #[.int .u8 t.k, .int .i64 t.n, .int .i64 t.v, .int .u8 t.c, .slice A m cp] 27
  have hL := (hl.below hbx).more hbx.size
  have z0 := hz.cell 0
  have z1 := hz.cell 1
  have z2 := hz.cell 2
  have z3 := hz.cell 3
  have z4 := hz.cell 4
  have hq := refSize_any t (.agg #[.int .u8 t.k, .int .i64 t.n, .int .i64 t.v, .int .u8 t.c, .slice A m cp]) _ ⟨A, m, cp, rfl, hL⟩
  obtain ⟨s, hs⟩ : ∃ s, sizeW t = s := ⟨_, rfl⟩
  rw [hs] at hq
  have Hq := Lib.hid hq
  have HL := Lib.hid hL
  have Hz := Lib.hid hz
  have Hbx := Lib.hid hbx
  have hE : mayTE t = if 300 < s then 3 else if mayT t then 0 else 2 := by unfold mayTE; rw [hs]
  have HE := Lib.hid hE
  clear hl hbx hz hL hq hs hE
  go_enter Tryd.func20, Tryd.ntmps20
  by_cases hbig : s > 300
  · have d0 : decide (s > 300) = true := by simpa using hbig
    have HR : Hid (3 = mayTE t) := Lib.hid (by rw [HE.out, if_pos (by omega)])
    clear hbig
    go_wp2_with fail
    refine Hq.out.mono ?_; rintro e w1 ⟨rfl, hb1⟩
    have hb2 := Hbx.out.trans (hb1.mono Hbx.out.size)
    clear z0 z1 z2 z3 z4 hb1
    go_wp2_with fail
    go_ret
    exact ⟨ret_int HR.out, hb2⟩
  · have d0 : decide (s > 300) = false := by simpa using hbig
    have hE2 : mayTE t = if mayT t then 0 else 2 := by rw [HE.out, if_neg (by omega)]
    have HE2 := Lib.hid hE2
    clear hbig hE2
    go_wp2_with fail
    refine Hq.out.mono ?_; rintro e w1 ⟨rfl, hb1⟩
    have hz1 := Hz.out.below hb1 Hz.out.lt
    have hL1 := (HL.out.below hb1).more hb1.size
    have Hb2 := Lib.hid (Hbx.out.trans (hb1.mono Hbx.out.size))
    clear z0 z1 z2 z3 z4 hb1
    have y0 := hz1.cell 0
    have y1 := hz1.cell 1
    have y2 := hz1.cell 2
    have y3 := hz1.cell 3
    have y4 := hz1.cell 4
    have hq := refIs_go (nodes t) t (Nat.le_refl _) A m cp w1 hL1
    obtain ⟨M, hM⟩ : ∃ M, mayT t = M := ⟨_, rfl⟩
    rw [hM] at hq HE2
    have Hq2 := Lib.hid hq
    clear hq hM hz1 hL1 Hq HL Hz Hbx HE
    cases M with
    | true =>
      have HR : Hid (0 = mayTE t) := Lib.hid (by rw [HE2.out]; rfl)
      go_wp2_with fail
      refine Hq2.out.mono ?_; rintro e w3 ⟨rfl, hb5⟩
      have hb6 := Hb2.out.trans (hb5.mono Hb2.out.size)
      clear y0 y1 y2 y3 y4 hb5 Hq2
      go_wp2_with fail
      go_ret
      exact ⟨ret_int HR.out, hb6⟩
    | false =>
      have HR : Hid (2 = mayTE t) := Lib.hid (by rw [HE2.out]; rfl)
      go_wp2_with fail
      refine Hq2.out.mono ?_; rintro e w3 ⟨rfl, hb5⟩
      have hb6 := Hb2.out.trans (hb5.mono Hb2.out.size)
      clear y0 y1 y2 y3 y4 hb5 Hq2
      go_wp2_with fail
      go_ret
      exact ⟨ret_int HR.out, hb6⟩

end Go.Proofs.YtidamlkekgnhgaaDoor
