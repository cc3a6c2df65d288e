/- Texts tell types apart. No program's function. -/
import Derived.Test.YtidamlkekgnhgaaDoorTyT
import Derived.Lib.RowBridge
namespace Go.Proofs.YtidamlkekgnhgaaDoor
set_option linter.unusedVariables false
set_option linter.unusedSimpArgs false
open Go.RowKit

theorem u8_ofNat_inj {a b : Nat} (ha : a < 256) (hb : b < 256) (h : UInt8.ofNat a = UInt8.ofNat b) : a = b := by
  have := congrArg UInt8.toNat h
  rwa [UInt8.toNat_ofNat_of_lt' ha, UInt8.toNat_ofNat_of_lt' hb] at this
theorem dec_ne (n : Nat) : Lib.decDigits n ≠ [] := by
  rw [Lib.decDigits]
  split <;> simp
theorem dec_inj : ∀ (a b : Nat), Lib.decDigits a = Lib.decDigits b → a = b
  | a, b, h => by
    rw [Lib.decDigits, Lib.decDigits.eq_def b] at h
    by_cases ha : a < 10
    · rw [dif_pos ha] at h
      by_cases hb : b < 10
      · rw [dif_pos hb] at h
        injection h with h _
        have := u8_ofNat_inj (by omega) (by omega) h
        omega
      · rw [dif_neg hb] at h
        have h1 := congrArg List.length h
        have h2 := List.length_pos_iff.2 (dec_ne (b / 10))
        rw [List.length_append] at h1
        simp only [List.length_cons, List.length_nil] at h1
        omega
    · rw [dif_neg ha] at h
      by_cases hb : b < 10
      · rw [dif_pos hb] at h
        have h1 := congrArg List.length h
        have h2 := List.length_pos_iff.2 (dec_ne (a / 10))
        rw [List.length_append] at h1
        simp only [List.length_cons, List.length_nil] at h1
        omega
      · rw [dif_neg hb] at h
        obtain ⟨h1, h2⟩ := List.append_inj' h (by simp)
        injection h2 with h2 _
        have e1 := dec_inj (a / 10) (b / 10) h1
        have e2 := u8_ofNat_inj (by omega) (by omega) h2
        omega
termination_by a => a
theorem dec_mem (n : Nat) : ∀ c ∈ Lib.decDigits n, 48 ≤ c.toNat ∧ c.toNat ≤ 57 := by
  induction n using Lib.decDigits.induct with
  | case1 n h =>
    rw [Lib.decDigits, dif_pos h]
    intro c hc
    rw [List.mem_singleton] at hc
    subst hc
    rw [UInt8.toNat_ofNat_of_lt' (by show _ < 256; omega)]
    omega
  | case2 n h ih =>
    rw [Lib.decDigits, dif_neg h]
    intro c hc
    rcases List.mem_append.1 hc with hc | hc
    · exact ih c hc
    · rw [List.mem_singleton] at hc
      subst hc
      rw [UInt8.toNat_ofNat_of_lt' (by show _ < 256; omega)]
      omega
theorem itoa_mem {n : Int} (h : 0 ≤ n) : ∀ c ∈ Lib.itoa n, 48 ≤ c.toNat ∧ c.toNat ≤ 57 := by
  obtain ⟨x, rfl⟩ := Int.eq_ofNat_of_zero_le h
  rw [Lib.itoa_nonneg]
  exact dec_mem x
theorem itoa_inj {a b : Int} (ha : 0 ≤ a) (hb : 0 ≤ b) (h : Lib.itoa a = Lib.itoa b) : a = b := by
  obtain ⟨x, rfl⟩ := Int.eq_ofNat_of_zero_le ha
  obtain ⟨y, rfl⟩ := Int.eq_ofNat_of_zero_le hb
  rw [Lib.itoa_nonneg, Lib.itoa_nonneg] at h
  rw [dec_inj x y h]

/-- what a node is that may be -/
theorem may_facts {t : TyD} (h : mayT t = true) : 1 ≤ t.k ∧ t.k ≤ 8 ∧ 0 ≤ t.n ∧ t.n < mostI t.k ∧ (0 ≤ kidsI t.k → (t.l.length : Int) = kidsI t.k) ∧ ((t.v = 0 ∧ t.c = 0) ∨ (t.k = 7 ∧ isB t.c t.v = true)) ∧ ∀ x ∈ t.l, mayT x = true := by
  rw [mayT_eq, Bool.and_eq_true] at h
  obtain ⟨h1, h2⟩ := h
  unfold isN at h1
  simp only [Bool.and_eq_true, Bool.or_eq_true, Bool.not_eq_true', Bool.and_eq_false_iff, Bool.not_eq_false', decide_eq_true_eq, decide_eq_false_iff_not] at h1
  obtain ⟨⟨⟨⟨⟨⟨a1, a2⟩, a3⟩, a4⟩, a5⟩, a6⟩, a7⟩ := h1
  refine ⟨a1, a2, a3, a4, fun h => ?_, a7, fun x hx => List.all_eq_true.1 h2 x hx⟩
  rcases a5 with a5 | a5
  · exact absurd h a5
  · exact a5
theorem may_mu {t : TyD} (h : mayT t = true) : isB t.c t.v = true := by
  rcases (may_facts h).2.2.2.2.2.1 with h | h
  · rw [h.1, h.2]; decide
  · exact h.2
theorem may_plain {t : TyD} (h : mayT t = true) (hk : t.k ≠ 7) : t.v = 0 ∧ t.c = 0 := by
  rcases (may_facts h).2.2.2.2.2.1 with h | h
  · exact h
  · exact absurd h.1 hk
theorem may_leaf {t : TyD} (h : mayT t = true) (hk : t.k < 6) : t.l = [] := by
  have f := may_facts h
  have hk0 : kidsI t.k = 0 := by unfold kidsI; rw [if_neg (by omega), if_neg (by omega), if_neg (by omega)]
  have := f.2.2.2.2.1 (by omega)
  rw [hk0] at this
  exact List.length_eq_zero_iff.1 (by omega)
theorem may_fun {t : TyD} (h : mayT t = true) (hk : t.k = 7) : ∃ a b, t.l = [a, b] := by
  have f := may_facts h
  have hk0 : kidsI t.k = 2 := by rw [hk]; rfl
  have := f.2.2.2.2.1 (by omega)
  rw [hk0] at this
  match hl : t.l, this with
  | [a, b], _ => exact ⟨a, b, rfl⟩
  | [], h => simp at h
  | [_], h => simp at h
  | _ :: _ :: _ :: _, h => simp at h; omega
theorem may_n0 {t : TyD} (h : mayT t = true) (h1 : t.k ≠ 1) (h8 : t.k ≠ 8) : t.n = 0 := by
  have f := may_facts h
  have : mostI t.k = 1 := by unfold mostI; rw [if_neg h1, if_neg h8]
  omega

/-! ### words -/
/-- does a sign end a word? -/
def brk (c : UInt8) : Bool := c == 32 || c == 40 || c == 41
def Word (l : List UInt8) : Prop := ∀ c ∈ l, brk c = false
def Ends (r : List UInt8) : Prop := r = [] ∨ ∃ c s, r = c :: s ∧ brk c = true
theorem word_inj : ∀ {x y r s : List UInt8}, Word x → Word y → Ends r → Ends s → x ++ r = y ++ s → x = y ∧ r = s
  | [], [], r, s, _, _, _, _, h => ⟨rfl, h⟩
  | [], b :: y, r, s, _, hy, hr, _, h => by
    exfalso
    have hb := hy b (by simp)
    rcases hr with rfl | ⟨c, q, rfl, hc⟩
    · simp at h
    · simp only [List.nil_append, List.cons_append, List.cons.injEq] at h
      rw [h.1, hb] at hc
      exact absurd hc (by decide)
  | a :: x, [], r, s, hx, _, _, hs, h => by
    exfalso
    have hb := hx a (by simp)
    rcases hs with rfl | ⟨c, q, rfl, hc⟩
    · simp at h
    · simp only [List.nil_append, List.cons_append, List.cons.injEq] at h
      rw [← h.1, hb] at hc
      exact absurd hc (by decide)
  | a :: x, b :: y, r, s, hx, hy, hr, hs, h => by
    simp only [List.cons_append, List.cons.injEq] at h
    obtain ⟨h1, h2⟩ := word_inj (fun c hc => hx c (List.mem_cons_of_mem _ hc)) (fun c hc => hy c (List.mem_cons_of_mem _ hc)) hr hs h.2
    exact ⟨by rw [h.1, h1], h2⟩
theorem brk_of {c : UInt8} (h : 48 ≤ c.toNat) : brk c = false := by
  unfold brk
  simp only [Bool.or_eq_false_iff, beq_eq_false_iff_ne, ne_eq]
  refine ⟨⟨?_, ?_⟩, ?_⟩ <;> (rintro rfl; revert h; decide)
/-- the words of the document's names -/
def ws2 : List ByteArray := [⟨#[66, 111, 111, 108]⟩, ⟨#[76, 105, 115, 116]⟩]
/-- the word that a type's text begins with -/
def tyWord (t : TyD) : List UInt8 := if t.k = 1 then 97 :: Lib.itoa t.n else if t.k = 2 then [73, 110, 116] else if t.k = 3 then [83, 116, 114] else if t.k = 4 then [73, 111] else if t.k = 5 then [70, 105, 108, 101] else txHead ws2 t.k t.n
theorem txB_word {t : TyD} (h : mayT t = true) (hk : t.k ≠ 7) : txB ws2 t = tyWord t ++ txB.dataL ws2 t.l := by
  have f := may_facts h
  rw [txB_eq]
  unfold tyWord
  by_cases h6 : t.k < 6
  · rw [may_leaf h h6]
    have : txB.dataL ws2 [] = [] := by rw [txB.dataL]
    rw [this, List.append_nil]
    have e : t.k = 1 ∨ t.k = 2 ∨ t.k = 3 ∨ t.k = 4 ∨ t.k = 5 := by omega
    rcases e with e | e | e | e | e <;> simp [e]
  · rw [if_neg (by omega), if_neg (by omega), if_neg (by omega), if_neg (by omega), if_neg (by omega), if_neg hk, if_neg (by omega), if_neg (by omega), if_neg (by omega), if_neg (by omega), if_neg (by omega)]
theorem head2_cases {n : Int} (h0 : 0 ≤ n) : txHead ws2 8 n = if n = 0 then [66, 111, 111, 108] else if n = 1 then [76, 105, 115, 116] else 35 :: Lib.itoa n := by
  unfold txHead
  rw [if_neg (by decide)]
  by_cases e0 : n = 0
  · subst e0; rfl
  · by_cases e1 : n = 1
    · subst e1; rfl
    · rw [if_neg e0, if_neg e1, if_neg]
      show ¬ n < ((2 : Nat) : Int)
      omega
/-- what a word is, by its kind -/
theorem tyWord_cases {t : TyD} (h : mayT t = true) (hk : t.k ≠ 7) :
    (t.k = 1 ∧ tyWord t = 97 :: Lib.itoa t.n) ∨ (t.k = 2 ∧ tyWord t = [73, 110, 116]) ∨ (t.k = 3 ∧ tyWord t = [83, 116, 114]) ∨ (t.k = 4 ∧ tyWord t = [73, 111]) ∨ (t.k = 5 ∧ tyWord t = [70, 105, 108, 101]) ∨ (t.k = 6 ∧ tyWord t = [65, 114, 114]) ∨
      (t.k = 8 ∧ t.n = 0 ∧ tyWord t = [66, 111, 111, 108]) ∨ (t.k = 8 ∧ t.n = 1 ∧ tyWord t = [76, 105, 115, 116]) ∨ (t.k = 8 ∧ t.n ≠ 0 ∧ t.n ≠ 1 ∧ tyWord t = 35 :: Lib.itoa t.n) := by
  have f := may_facts h
  have e : t.k = 1 ∨ t.k = 2 ∨ t.k = 3 ∨ t.k = 4 ∨ t.k = 5 ∨ t.k = 6 ∨ t.k = 8 := by omega
  unfold tyWord
  rcases e with e | e | e | e | e | e | e
  · simp [e]
  · simp [e]
  · simp [e]
  · simp [e]
  · simp [e]
  · simp [e, txHead]
  · rw [e, if_neg (by decide), if_neg (by decide), if_neg (by decide), if_neg (by decide), if_neg (by decide), head2_cases f.2.2.1]
    by_cases e0 : t.n = 0
    · simp [e0]
    · by_cases e1 : t.n = 1
      · simp [e1]
      · simp [e0, e1]
theorem word_digits {c : UInt8} {n : Int} (h0 : 0 ≤ n) (hc : brk c = false) : Word (c :: Lib.itoa n) := by
  intro x hx
  rcases List.mem_cons.1 hx with rfl | hx
  · exact hc
  · exact brk_of (itoa_mem h0 x hx).1
theorem tyWord_word {t : TyD} (h : mayT t = true) (hk : t.k ≠ 7) : Word (tyWord t) := by
  have h0 := (may_facts h).2.2.1
  rcases tyWord_cases h hk with ⟨_, e⟩ | ⟨_, e⟩ | ⟨_, e⟩ | ⟨_, e⟩ | ⟨_, e⟩ | ⟨_, e⟩ | ⟨_, _, e⟩ | ⟨_, _, e⟩ | ⟨_, _, _, e⟩ <;> rw [e]
  · exact word_digits h0 (by decide)
  · unfold Word; decide
  · unfold Word; decide
  · unfold Word; decide
  · unfold Word; decide
  · unfold Word; decide
  · unfold Word; decide
  · unfold Word; decide
  · exact word_digits h0 (by decide)
theorem tyWord_head {t : TyD} (h : mayT t = true) (hk : t.k ≠ 7) : ∃ c r, tyWord t = c :: r ∧ c ≠ 40 ∧ c ≠ 45 := by
  rcases tyWord_cases h hk with ⟨_, e⟩ | ⟨_, e⟩ | ⟨_, e⟩ | ⟨_, e⟩ | ⟨_, e⟩ | ⟨_, e⟩ | ⟨_, _, e⟩ | ⟨_, _, e⟩ | ⟨_, _, _, e⟩ <;> exact ⟨_, _, e, by decide, by decide⟩
theorem tyWord_inj {t u : TyD} (h : mayT t = true) (hk : t.k ≠ 7) (h' : mayT u = true) (hk' : u.k ≠ 7) (e : tyWord t = tyWord u) : t.k = u.k ∧ t.n = u.n := by
  have f := may_facts h
  have f' := may_facts h'
  have z : ∀ {x : TyD}, mayT x = true → x.k ≠ 1 → x.k ≠ 8 → x.n = 0 := fun h a b => may_n0 h a b
  rcases tyWord_cases h hk with ⟨k1, e1⟩ | ⟨k1, e1⟩ | ⟨k1, e1⟩ | ⟨k1, e1⟩ | ⟨k1, e1⟩ | ⟨k1, e1⟩ | ⟨k1, n1, e1⟩ | ⟨k1, n1, e1⟩ | ⟨k1, n1, _, e1⟩ <;>
  rcases tyWord_cases h' hk' with ⟨k2, e2⟩ | ⟨k2, e2⟩ | ⟨k2, e2⟩ | ⟨k2, e2⟩ | ⟨k2, e2⟩ | ⟨k2, e2⟩ | ⟨k2, n2, e2⟩ | ⟨k2, n2, e2⟩ | ⟨k2, n2, _, e2⟩ <;>
  rw [e1, e2] at e <;>
  first
    | (exfalso; simp at e; done)
    | (refine ⟨by omega, ?_⟩; injection e with _ e; exact itoa_inj f.2.2.1 f'.2.2.1 e)
    | (refine ⟨by omega, by omega⟩)
    | (refine ⟨by omega, ?_⟩; rw [z h (by omega) (by omega), z h' (by omega) (by omega)])

/-! ### the mark of a function -/
def mbody (v c : Int) : List UInt8 := if c = 0 then 109 :: Lib.itoa v else (mtext c).data.toList
theorem txMark_eq (v c : Int) : txMark v c = 32 :: 45 :: (mbody v c ++ [62, 32]) := rfl
theorem sep62_inj : ∀ {x y r s : List UInt8}, (∀ c ∈ x, c ≠ 62) → (∀ c ∈ y, c ≠ 62) → x ++ 62 :: r = y ++ 62 :: s → x = y ∧ r = s
  | [], [], r, s, _, _, h => by simpa using h
  | [], b :: y, r, s, _, hy, h => by
    simp only [List.nil_append, List.cons_append, List.cons.injEq] at h
    exact absurd h.1.symm (hy b (by simp))
  | a :: x, [], r, s, hx, _, h => by
    simp only [List.nil_append, List.cons_append, List.cons.injEq] at h
    exact absurd h.1 (hx a (by simp))
  | a :: x, b :: y, r, s, hx, hy, h => by
    simp only [List.cons_append, List.cons.injEq] at h
    obtain ⟨h1, h2⟩ := sep62_inj (fun c hc => hx c (List.mem_cons_of_mem _ hc)) (fun c hc => hy c (List.mem_cons_of_mem _ hc)) h.2
    exact ⟨by rw [h.1, h1], h2⟩
theorem isB_cases {c v : Int} (h : isB c v = true) : (c = 0 ∧ 0 ≤ v) ∨ (v = 0 ∧ (c = 1 ∨ c = 2 ∨ c = 3)) := by
  unfold isB oneB at h
  simp only [Bool.or_eq_true, Bool.and_eq_true, beq_iff_eq, decide_eq_true_eq] at h
  omega
theorem mtext_list {c : Int} (h : c = 1 ∨ c = 2 ∨ c = 3) : ((c = 1 ∧ (mtext c).data.toList = [49]) ∨ (c = 2 ∧ (mtext c).data.toList = [63]) ∨ (c = 3 ∧ (mtext c).data.toList = [42])) := by
  rcases h with rfl | rfl | rfl
  · exact .inl ⟨rfl, by decide⟩
  · exact .inr (.inl ⟨rfl, by decide⟩)
  · exact .inr (.inr ⟨rfl, by decide⟩)
theorem mbody_mem {v c : Int} (h : isB c v = true) : ∀ x ∈ mbody v c, x ≠ 62 := by
  unfold mbody
  rcases isB_cases h with ⟨rfl, h0⟩ | ⟨rfl, hc⟩
  · rw [if_pos rfl]
    intro x hx
    rcases List.mem_cons.1 hx with rfl | hx
    · decide
    · have := (itoa_mem h0 x hx).2
      rintro rfl
      revert this; decide
  · rw [if_neg (by omega)]
    rcases mtext_list hc with ⟨_, e⟩ | ⟨_, e⟩ | ⟨_, e⟩ <;> rw [e] <;> decide
theorem mbody_inj {v c v' c' : Int} (h : isB c v = true) (h' : isB c' v' = true) (e : mbody v c = mbody v' c') : v = v' ∧ c = c' := by
  unfold mbody at e
  rcases isB_cases h with ⟨rfl, h0⟩ | ⟨rfl, hc⟩ <;> rcases isB_cases h' with ⟨rfl, h0'⟩ | ⟨rfl, hc'⟩
  · simp only [if_true] at e
    injection e with _ e
    exact ⟨itoa_inj h0 h0' e, rfl⟩
  · rw [if_pos rfl, if_neg (by omega)] at e
    rcases mtext_list hc' with ⟨_, e2⟩ | ⟨_, e2⟩ | ⟨_, e2⟩ <;> rw [e2] at e <;> exact absurd e (by simp)
  · rw [if_pos rfl, if_neg (by omega)] at e
    rcases mtext_list hc with ⟨_, e2⟩ | ⟨_, e2⟩ | ⟨_, e2⟩ <;> rw [e2] at e <;> exact absurd e (by simp)
  · rw [if_neg (by omega), if_neg (by omega)] at e
    refine ⟨rfl, ?_⟩
    rcases mtext_list hc with ⟨e1, e2⟩ | ⟨e1, e2⟩ | ⟨e1, e2⟩ <;> rcases mtext_list hc' with ⟨e3, e4⟩ | ⟨e3, e4⟩ | ⟨e3, e4⟩ <;> rw [e2, e4] at e <;> first | omega | (exfalso; revert e; decide)

/-! ### texts -/
def E1 (r : List UInt8) : Prop := r = [] ∨ ∃ s, r = 41 :: s
def E2 (r : List UInt8) : Prop := E1 r ∨ ∃ s, r = 32 :: 45 :: s
def E3 (r : List UInt8) : Prop := E1 r ∨ ∃ s, r = 32 :: s
theorem E2.e3 {r : List UInt8} (h : E2 r) : E3 r := h.imp id fun ⟨s, e⟩ => ⟨_, e⟩
theorem E3.ends {r : List UInt8} (h : E3 r) : Ends r := by
  rcases h with (rfl | ⟨s, rfl⟩) | ⟨s, rfl⟩
  · exact .inl rfl
  · exact .inr ⟨_, _, rfl, by decide⟩
  · exact .inr ⟨_, _, rfl, by decide⟩
/-- the whole text of t can be told from all others -/
def PF (t : TyD) : Prop := ∀ u r s, mayT u = true → E1 r → E1 s → txB ws2 t ++ r = txB ws2 u ++ s → t = u ∧ r = s
def atomB (t : TyD) : List UInt8 := txPar (txIn t) (txB ws2 t)
theorem ty_ext {t u : TyD} (h1 : t.k = u.k) (h2 : t.n = u.n) (h3 : t.v = u.v) (h4 : t.c = u.c) (h5 : t.l = u.l) : t = u := by
  rw [t.eta, u.eta, h1, h2, h3, h4, h5]
theorem atom_word {t : TyD} (h : mayT t = true) (hi : txIn t = false) : t.k ≠ 7 ∧ t.l = [] ∧ atomB t = tyWord t := by
  have h7 : t.k ≠ 7 := by
    intro e
    unfold txIn at hi
    rw [e] at hi
    exact absurd hi (by simp)
  have hl : t.l = [] := by
    by_cases h6 : t.k < 6
    · exact may_leaf h h6
    · unfold txIn at hi
      rw [Bool.or_eq_false_iff, Bool.and_eq_false_iff, decide_eq_false_iff_not, decide_eq_false_iff_not] at hi
      rcases hi.2 with h | h
      · exact absurd (by omega) h
      · exact List.length_eq_zero_iff.1 (by omega)
  refine ⟨h7, hl, ?_⟩
  unfold atomB
  rw [hi, txB_word h h7, hl]
  show tyWord t ++ txB.dataL ws2 [] = _
  rw [show txB.dataL ws2 [] = [] from by rw [txB.dataL], List.append_nil]
theorem atom_par {t : TyD} (hi : txIn t = true) : atomB t = 40 :: (txB ws2 t ++ [41]) := by
  unfold atomB; rw [hi]; rfl
theorem atom_head {t : TyD} (h : mayT t = true) : ∃ c r, atomB t = c :: r ∧ c ≠ 45 := by
  cases hi : txIn t
  · obtain ⟨h7, _, e⟩ := atom_word h hi
    obtain ⟨c, r, e2, _, h45⟩ := tyWord_head h h7
    exact ⟨c, r, by rw [e, e2], h45⟩
  · exact ⟨_, _, atom_par hi, by decide⟩
theorem atom_of {t : TyD} (ht : mayT t = true) (hp : PF t) {u : TyD} {r s : List UInt8} (hu : mayT u = true) (hr : E3 r) (hs : E3 s) (h : atomB t ++ r = atomB u ++ s) : t = u ∧ r = s := by
  cases hi : txIn t <;> cases hj : txIn u
  · obtain ⟨k1, l1, e1⟩ := atom_word ht hi
    obtain ⟨k2, l2, e2⟩ := atom_word hu hj
    rw [e1, e2] at h
    obtain ⟨h1, h2⟩ := word_inj (tyWord_word ht k1) (tyWord_word hu k2) hr.ends hs.ends h
    obtain ⟨a, b⟩ := tyWord_inj ht k1 hu k2 h1
    have p1 := may_plain ht k1
    have p2 := may_plain hu k2
    exact ⟨ty_ext a b (by omega) (by omega) (by rw [l1, l2]), h2⟩
  · exfalso
    obtain ⟨k1, l1, e1⟩ := atom_word ht hi
    obtain ⟨c, q, e2, h40, _⟩ := tyWord_head ht k1
    rw [e1, e2, atom_par hj] at h
    simp only [List.cons_append, List.cons.injEq] at h
    exact h40 h.1
  · exfalso
    obtain ⟨k1, l1, e1⟩ := atom_word hu hj
    obtain ⟨c, q, e2, h40, _⟩ := tyWord_head hu k1
    rw [e1, e2, atom_par hi] at h
    simp only [List.cons_append, List.cons.injEq] at h
    exact h40 h.1.symm
  · rw [atom_par hi, atom_par hj] at h
    simp only [List.cons_append, List.append_assoc, List.cons.injEq, true_and, List.nil_append] at h
    obtain ⟨a, b⟩ := hp u _ _ hu (.inr ⟨_, rfl⟩) (.inr ⟨_, rfl⟩) h
    injection b with _ b
    exact ⟨a, b⟩
theorem dataL_cons (t : TyD) (l : List TyD) : txB.dataL ws2 (t :: l) = 32 :: (atomB t ++ txB.dataL ws2 l) := by rw [txB.dataL]; rfl
theorem dataL_e3 (l : List TyD) {r : List UInt8} (h : E2 r) : E3 (txB.dataL ws2 l ++ r) := by
  cases l with
  | nil => rw [txB.dataL]; exact h.e3
  | cons t l => rw [dataL_cons]; exact .inr ⟨_, rfl⟩
theorem dataL_ne {u : TyD} (hu : mayT u = true) (l : List TyD) {r s : List UInt8} (hr : E2 r) (h : r = 32 :: (atomB u ++ txB.dataL ws2 l ++ s)) : False := by
  obtain ⟨c, q, e, h45⟩ := atom_head hu
  rw [e] at h
  rcases hr with (rfl | ⟨s, rfl⟩) | ⟨s, rfl⟩
  · simp at h
  · simp at h
  · simp only [List.cons_append, List.cons.injEq, true_and] at h
    exact h45 h.1.symm
theorem list_of : ∀ (l : List TyD), (∀ t ∈ l, mayT t = true ∧ PF t) → ∀ (l' : List TyD) (r s : List UInt8), (∀ t ∈ l', mayT t = true) → E2 r → E2 s → txB.dataL ws2 l ++ r = txB.dataL ws2 l' ++ s → l = l' ∧ r = s
  | [], _, [], r, s, _, _, _, h => by
    rw [txB.dataL] at h
    exact ⟨rfl, h⟩
  | [], _, u :: l', r, s, hl', hr, _, h => by
    exfalso
    rw [dataL_cons, show txB.dataL ws2 [] = [] from by rw [txB.dataL]] at h
    exact dataL_ne (hl' u (by simp)) l' hr (by simpa using h)
  | t :: l, hl, [], r, s, _, _, hs, h => by
    exfalso
    rw [dataL_cons, show txB.dataL ws2 [] = [] from by rw [txB.dataL]] at h
    exact dataL_ne (hl t (by simp)).1 l hs (by simpa using h.symm)
  | t :: l, hl, u :: l', r, s, hl', hr, hs, h => by
    rw [dataL_cons, dataL_cons] at h
    simp only [List.cons_append, List.append_assoc, List.cons.injEq, true_and] at h
    have ht := hl t (by simp)
    obtain ⟨h1, h2⟩ := atom_of ht.1 ht.2 (hl' u (by simp)) (dataL_e3 l hr) (dataL_e3 l' hs) h
    obtain ⟨h3, h4⟩ := list_of l (fun x hx => hl x (List.mem_cons_of_mem _ hx)) l' r s (fun x hx => hl' x (List.mem_cons_of_mem _ hx)) hr hs h2
    exact ⟨by rw [h1, h3], h4⟩
theorem app_of {t : TyD} (ht : mayT t = true) (hk : t.k ≠ 7) (hp : ∀ x ∈ t.l, PF x) {u : TyD} {r s : List UInt8} (hu : mayT u = true) (hk' : u.k ≠ 7) (hr : E2 r) (hs : E2 s) (h : txB ws2 t ++ r = txB ws2 u ++ s) : t = u ∧ r = s := by
  rw [txB_word ht hk, txB_word hu hk', List.append_assoc, List.append_assoc] at h
  obtain ⟨h1, h2⟩ := word_inj (tyWord_word ht hk) (tyWord_word hu hk') (dataL_e3 _ hr).ends (dataL_e3 _ hs).ends h
  obtain ⟨a, b⟩ := tyWord_inj ht hk hu hk' h1
  have f := may_facts ht
  have f' := may_facts hu
  obtain ⟨h3, h4⟩ := list_of t.l (fun x hx => ⟨f.2.2.2.2.2.2 x hx, hp x hx⟩) u.l r s f'.2.2.2.2.2.2 hr hs h2
  have p1 := may_plain ht hk
  have p2 := may_plain hu hk'
  exact ⟨ty_ext a b (by omega) (by omega) h3, h4⟩
theorem word_not40 {t : TyD} (ht : mayT t = true) (hk : t.k ≠ 7) {r x : List UInt8} (h : txB ws2 t ++ r = 40 :: x) : False := by
  obtain ⟨c, q, e, h40, _⟩ := tyWord_head ht hk
  rw [txB_word ht hk, e] at h
  simp only [List.cons_append, List.cons.injEq] at h
  exact h40 h.1
/-- the text to the left of a mark -/
def leftB (a : TyD) : List UInt8 := txPar (a.k == 7) (txB ws2 a)
theorem txB_fun {t a b : TyD} (hk : t.k = 7) (hl : t.l = [a, b]) : txB ws2 t = leftB a ++ (32 :: 45 :: (mbody t.v t.c ++ 62 :: 32 :: txB ws2 b)) := by
  rw [txB_eq, if_neg (by omega), if_neg (by omega), if_neg (by omega), if_neg (by omega), if_neg (by omega), if_pos hk, hl, txB.funL, txB.funL, txB.funL, txMark_eq]
  simp [leftB, txPar]
theorem left_of {a : TyD} (ha : mayT a = true) (hpa : PF a) (hpk : ∀ x ∈ a.l, PF x) {a' : TyD} (ha' : mayT a' = true) {x y : List UInt8} (h : leftB a ++ 32 :: 45 :: x = leftB a' ++ 32 :: 45 :: y) : a = a' ∧ x = y := by
  unfold leftB at h
  by_cases hk : a.k = 7 <;> by_cases hk' : a'.k = 7
  · rw [hk, hk'] at h
    simp only [beq_self_eq_true, txPar, if_true, List.cons_append, List.append_assoc, List.cons.injEq, true_and, List.nil_append] at h
    obtain ⟨e1, e2⟩ := hpa a' _ _ ha' (.inr ⟨_, rfl⟩) (.inr ⟨_, rfl⟩) h
    simp only [List.cons.injEq, true_and] at e2
    exact ⟨e1, e2⟩
  · exfalso
    rw [hk, show (a'.k == 7) = false from by simp [hk']] at h
    simp only [beq_self_eq_true, txPar, if_true, List.cons_append] at h
    exact word_not40 ha' hk' h.symm
  · exfalso
    rw [hk', show (a.k == 7) = false from by simp [hk]] at h
    simp only [beq_self_eq_true, txPar, if_true, List.cons_append] at h
    exact word_not40 ha hk h
  · rw [show (a.k == 7) = false from by simp [hk], show (a'.k == 7) = false from by simp [hk']] at h
    have h : txB ws2 a ++ 32 :: 45 :: x = txB ws2 a' ++ 32 :: 45 :: y := h
    obtain ⟨e1, e2⟩ := app_of ha hk hpk ha' hk' (.inr ⟨_, rfl⟩) (.inr ⟨_, rfl⟩) h
    simp only [List.cons.injEq, true_and] at e2
    exact ⟨e1, e2⟩
/-- a function's text is no other's -/
theorem fun_not {t a b : TyD} (hk : t.k = 7) (hl : t.l = [a, b]) (ha : mayT a = true) (hpk : ∀ x ∈ a.l, PF x) {u : TyD} (hu : mayT u = true) (hk' : u.k ≠ 7) {r s : List UInt8} (hs : E1 s) (h : txB ws2 t ++ r = txB ws2 u ++ s) : False := by
  rw [txB_fun hk hl, List.append_assoc] at h
  unfold leftB at h
  by_cases hka : a.k = 7
  · rw [hka] at h
    simp only [beq_self_eq_true, txPar, if_true, List.cons_append] at h
    exact word_not40 hu hk' h.symm
  · rw [show (a.k == 7) = false from by simp [hka]] at h
    have h : txB ws2 a ++ 32 :: 45 :: ((mbody t.v t.c ++ 62 :: 32 :: txB ws2 b) ++ r) = txB ws2 u ++ s := h
    obtain ⟨_, e2⟩ := app_of ha hka hpk hu hk' (.inr ⟨_, rfl⟩) (.inl hs) h
    rcases hs with rfl | ⟨q, rfl⟩
    · simp at e2
    · simp at e2
theorem text_tells : ∀ (N : Nat) (t : TyD), nodes t ≤ N → mayT t = true → PF t
  | 0, t, hN, _ => absurd hN (by rw [nodes_eq t]; omega)
  | N + 1, t, hN, ht => by
    have f := may_facts ht
    have ih : ∀ x ∈ t.l, PF x := fun x hx => text_tells N x (by have := nodes_mem hx; rw [nodes_eq t] at hN; omega) (f.2.2.2.2.2.2 x hx)
    have ih2 : ∀ x ∈ t.l, ∀ y ∈ x.l, PF y := fun x hx y hy => text_tells N y (by have h1 := nodes_mem hx; have h2 := nodes_mem hy; rw [nodes_eq t, ] at hN; rw [nodes_eq x] at h1; omega) ((may_facts (f.2.2.2.2.2.2 x hx)).2.2.2.2.2.2 y hy)
    intro u r s hu hr hs h
    by_cases hk : t.k = 7 <;> by_cases hk' : u.k = 7
    · obtain ⟨a, b, hl⟩ := may_fun ht hk
      obtain ⟨a', b', hl'⟩ := may_fun hu hk'
      have f' := may_facts hu
      have ma := f.2.2.2.2.2.2 a (by rw [hl]; simp)
      have mb := f.2.2.2.2.2.2 b (by rw [hl]; simp)
      have ma' := f'.2.2.2.2.2.2 a' (by rw [hl']; simp)
      have mb' := f'.2.2.2.2.2.2 b' (by rw [hl']; simp)
      rw [txB_fun hk hl, txB_fun hk' hl', List.append_assoc, List.append_assoc] at h
      simp only [List.cons_append] at h
      obtain ⟨e1, e2⟩ := left_of ma (ih a (by rw [hl]; simp)) (ih2 a (by rw [hl]; simp)) ma' h
      rw [List.append_assoc, List.append_assoc] at e2
      simp only [List.cons_append] at e2
      obtain ⟨e3, e4⟩ := sep62_inj (mbody_mem (may_mu ht)) (mbody_mem (may_mu hu)) e2
      obtain ⟨e5, e6⟩ := mbody_inj (may_mu ht) (may_mu hu) e3
      injection e4 with _ e4
      obtain ⟨e7, e8⟩ := ih b (by rw [hl]; simp) b' r s mb' hr hs e4
      have n1 := may_n0 ht (by omega) (by omega)
      have n2 := may_n0 hu (by omega) (by omega)
      exact ⟨ty_ext (by omega) (by omega) e5 e6 (by rw [hl, hl', e1, e7]), e8⟩
    · obtain ⟨a, b, hl⟩ := may_fun ht hk
      exact (fun_not hk hl (f.2.2.2.2.2.2 a (by rw [hl]; simp)) (ih2 a (by rw [hl]; simp)) hu hk' hs h).elim
    · obtain ⟨a, b, hl⟩ := may_fun hu hk'
      exfalso
      have f' := may_facts hu
      have ma := f'.2.2.2.2.2.2 a (by rw [hl]; simp)
      rw [txB_fun hk' hl, List.append_assoc] at h
      unfold leftB at h
      by_cases hka : a.k = 7
      · rw [hka] at h
        simp only [beq_self_eq_true, txPar, if_true, List.cons_append] at h
        exact word_not40 ht hk h
      · rw [show (a.k == 7) = false from by simp [hka]] at h
        have h : txB ws2 t ++ r = txB ws2 a ++ 32 :: 45 :: ((mbody u.v u.c ++ 62 :: 32 :: txB ws2 b) ++ s) := h
        obtain ⟨_, e2⟩ := app_of ht hk ih ma hka (.inl hr) (.inr ⟨_, rfl⟩) h
        rcases hr with rfl | ⟨q, rfl⟩
        · simp at e2
        · simp at e2
    · exact app_of ht hk ih hu hk' (.inl hr) (.inl hs) h
/-- types that may be have the same text just if they are the same -/
theorem text_inj {t u : TyD} (ht : mayT t = true) (hu : mayT u = true) (h : txB ws2 t = txB ws2 u) : t = u :=
  (text_tells _ t (Nat.le_refl _) ht u [] [] hu (.inl rfl) (.inl rfl) (by rw [h])).1

end Go.Proofs.YtidamlkekgnhgaaDoor
