/- Worlds with uses, terms and Mus in them; contracts of uses' functions whether they refuse or not; slices.Contains. -/
import Derived.Test.YtimlbpjdgnapoaaLawX
import Derived.Test.YtimlbpjdgnapoaaRefI
namespace Go.Proofs.Ytimlbpjdgnapoaa
set_option linter.unusedVariables false
set_option linter.unusedSimpArgs false
open Go.RowKit

/-- the world behind what was done, with uses, terms in blocks of their own, Mus in blocks of their own -/
structure StV (w0 w : World) (l : List (Option Addr × Nat × Nat × List UseD)) (lt : List (Nat × TermD)) (lm : List (Nat × Int × Int)) : Prop where
  use : StU w0 w l
  box : ∀ p ∈ lt, BoxT w p.1 p.2
  mu : ∀ p ∈ lm, Blk w p.1 46 #[.int .i64 p.2.1, .int .u8 p.2.2]
section
variable {w0 w w' : World} {l : List (Option Addr × Nat × Nat × List UseD)} {lt : List (Nat × TermD)} {lm : List (Nat × Int × Int)} {A : Option Addr} {n c : Nat} {xs : List UseD}
theorem StV.below (h : StV w0 w l lt lm) (hb : Below w.heap.size w w') : StV w0 w' l lt lm := ⟨h.use.below hb, fun p hp => (h.box p hp).below hb, fun p hp => (h.mu p hp).below hb (h.mu p hp).lt⟩
theorem StV.alloc (h : StV w0 w l lt lm) (o : Obj) : StV w0 (w.alloc o) l lt lm := h.below (below_box o)
theorem StV.drew (h : StV w0 w l lt lm) : StV w0 w.drew l lt lm := h.below ((Below.refl _ _).drew)
theorem StV.add (h : StV w0 w l lt lm) (hx : UsesV w w.heap.size A n c xs) : StV w0 w ((A, n, c, xs) :: l) lt lm := ⟨h.use.add hx, h.box, h.mu⟩
theorem StV.get (h : StV w0 w l lt lm) (A : Option Addr) (n c : Nat) (xs : List UseD) (hm : (A, n, c, xs) ∈ l) : UsesV w w.heap.size A n c xs := h.use.use _ hm
theorem StV.bel (h : StV w0 w l lt lm) : Below w0.heap.size w0 w := h.use.bel
/-- a term laid in a block of its own -/
theorem StV.newT (h : StV w0 w l lt lm) (t : TermD) {A : Option Addr} {n c : Nat} (hr : RdI .i64 w w.heap.size A n c t.vars) : StV w0 (w.alloc (Obj.cells #[.bool t.never, .int .u8 t.c, .slice A n c] 37)) l ((w.heap.size, t) :: lt) lm :=
  ⟨h.use.alloc _, fun p hp => by
    rcases List.mem_cons.1 hp with rfl | hp
    · exact BoxT.new t hr
    · exact (h.box p hp).alloc _, fun p hp => (h.mu p hp).below (below_box _) (h.mu p hp).lt⟩
theorem StV.newM (h : StV w0 w l lt lm) (v c : Int) : StV w0 (w.alloc (Obj.cells #[.int .i64 v, .int .u8 c] 46)) l lt ((w.heap.size, v, c) :: lm) :=
  ⟨h.use.alloc _, fun p hp => (h.box p hp).alloc _, fun p hp => by
    rcases List.mem_cons.1 hp with rfl | hp
    · exact blk_new _ _ _
    · exact (h.mu p hp).below (below_box _) (h.mu p hp).lt⟩
theorem StV.valT (h : StV w0 w l lt lm) (g : Nat) (t : TermD) (hm : (g, t) ∈ lt) : ∃ A n c, w.cell? ⟨g, 0, none⟩ = some (.bool t.never) ∧ w.cell? ⟨g, 1, none⟩ = some (.int .u8 t.c) ∧ w.cell? ⟨g, 2, none⟩ = some (.slice A n c) ∧ RdI .i64 w w.heap.size A n c t.vars ∧ g < w.heap.size := by
  obtain ⟨A, n, c, c0, c1, c2, _, _, _, hr⟩ := (h.box (g, t) hm).val
  exact ⟨A, n, c, c0, c1, c2, hr, (h.box (g, t) hm).lt⟩
theorem StV.valM (h : StV w0 w l lt lm) (g : Nat) (v c : Int) (hm : (g, v, c) ∈ lm) : w.cell? ⟨g, 0, none⟩ = some (.int .i64 v) ∧ w.cell? ⟨g, 1, none⟩ = some (.int .u8 c) :=
  ⟨(h.mu (g, v, c) hm).cell 0, (h.mu (g, v, c) hm).cell 1⟩
end

theorem joinU2_all (A : Option Addr) (n c : Nat) (a b : List UseD) (w : World) (hr : LsV w w.heap.size A n c [a, b]) (hn : n ≤ 1048576) (hV : (varsOf [a, b]).length ≤ 1048576) (M1 M2 : Bool) (h1 : mayU a = M1) (h2 : mayU b = M2) :
    Calls Try.prog 10 #[.slice A n c] w (RetUE (if M1 && M2 then eachU joinT [a, b] else []) (if M1 && M2 then 0 else 2) w) := by
  have h := joinU_any A n c [a, b] w hr hn hV
  have e : [a, b].any (fun x => !mayU x) = !(M1 && M2) := by simp [h1, h2]
  rw [e] at h
  cases M1 <;> cases M2 <;> simpa using h
theorem sumU2_all (A : Option Addr) (n c : Nat) (a b : List UseD) (w : World) (hr : LsV w w.heap.size A n c [a, b]) (hn : n ≤ 1048576) (hV : (varsOf [a, b]).length ≤ 1048576) (M1 M2 : Bool) (h1 : mayU a = M1) (h2 : mayU b = M2) :
    Calls Try.prog 11 #[.slice A n c] w (RetUE (if M1 && M2 then eachU sumT [a, b] else []) (if M1 && M2 then 0 else 2) w) := by
  have h := sumU_any A n c [a, b] w hr hn hV
  have e : [a, b].any (fun x => !mayU x) = !(M1 && M2) := by simp [h1, h2]
  rw [e] at h
  cases M1 <;> cases M2 <;> simpa using h
theorem scaleU_all (c v : Int) (A : Option Addr) (n cp : Nat) (l : List UseD) (w : World) (hr : UsesV w w.heap.size A n cp l) (I M : Bool) (h1 : isB c v = I) (h2 : mayU l = M) :
    Calls Try.prog 20 #[.agg #[.int .i64 v, .int .u8 c], .slice A n cp] w (RetUE (if I && M then scaleU c v l else []) (if I && M then 0 else 2) w) := by
  cases I with
  | false => exact scaleU_is c v A n cp l w hr h1
  | true => cases M with
    | false => exact scaleU_no c v A n cp l w hr h1 h2
    | true => exact scaleU_yes c v A n cp l w hr h1 h2
theorem timesU_all (A0 : Option Addr) (n0 c0 : Nat) (t : TermD) (A : Option Addr) (n cp : Nat) (l : List UseD) (w : World) (ht : RdI .i64 w w.heap.size A0 n0 c0 t.vars) (hr : UsesV w w.heap.size A n cp l) (T M : Bool) (h1 : mayB t = T) (h2 : mayU l = M) :
    Calls Try.prog 21 #[.agg #[.bool t.never, .int .u8 t.c, .slice A0 n0 c0], .slice A n cp] w (RetUE (if T && M then timesU t l else []) (if T && M then 0 else 2) w) := by
  cases T with
  | false => exact times_no A0 n0 c0 t A n cp l w ht hr h1
  | true => cases M with
    | false => exact times_bad A0 n0 c0 t A n cp l w ht hr h1 h2
    | true => exact times_yes A0 n0 c0 t A n cp l w ht hr h1 h2
theorem takeU_all (v : Int) (A : Option Addr) (n c : Nat) (xs : List UseD) (w : World) (hx : UsesV w w.heap.size A n c xs) (hv : -9223372036854775808 ≤ v ∧ v ≤ 9223372036854775807) (M : Bool) (h : mayU xs = M) :
    Calls Try.prog 17 #[.slice A n c, .int .i64 v] w (RetTU (if M then ofU xs v else ⟨false, 0, []⟩) (if M then xs.filter fun t => t.v != v else []) (if M then 0 else 2) w) := by
  cases M with
  | false => exact take_no v A n c xs w hx h
  | true => exact take_yes v A n c xs w hx h hv

/-- slices.Contains at ints -/
theorem containsI_any (A : Option Addr) (n c : Nat) (us : List Int) (x : Int) (w : World) (B : Nat) (h : RdI .i64 w B A n c us) :
    Calls Try.prog 34 #[.slice A n c, .int .i64 x] w fun e w' => e = .returned (.bool (us.contains x)) ∧ w' = w := by
  have hlen := h.len
  rcases Nat.eq_zero_or_pos n with h0 | h0
  · subst h0
    have : us = [] := List.length_eq_zero_iff.1 hlen
    subst this
    exact Try.slices_Contains_int_empty A c x w
  · obtain ⟨b, off, e, hb, hc⟩ := h.at_ h0
    subst e
    have hz : n ≤ 9223372036854775807 := Nat.le_trans h.2.1 h.2.2
    have := Try.slices_Contains_int b off n c us x w (by omega) hz (fun j hj => by rw [hc j hj, List.getD_eq_getElem?_getD, List.getElem?_eq_getElem hj]; rfl)
    rwa [List.take_of_length_le (by omega)] at this

theorem allVs_small {l : List UseD} (h1 : l.length ≤ 500) (h2 : ∀ x ∈ l, x.t.vars.length ≤ 500) : (allVs l).length ≤ 1099511627776 := by
  have key : ∀ l : List UseD, (∀ x ∈ l, x.t.vars.length ≤ 500) → (allVs l).length ≤ 500 * l.length := by
    intro l
    induction l with
    | nil => intro _; simp [allVs]
    | cons x l ih =>
      intro h
      have h3 := ih fun y hy => h y (by simp [hy])
      have h4 := h x (by simp)
      have e : allVs (x :: l) = x.t.vars ++ allVs l := by simp [allVs]
      rw [e, List.length_append, List.length_cons]
      omega
  have := key l h2
  omega

end Go.Proofs.Ytimlbpjdgnapoaa
