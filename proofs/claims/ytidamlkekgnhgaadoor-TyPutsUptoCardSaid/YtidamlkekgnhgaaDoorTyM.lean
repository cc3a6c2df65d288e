/- Rows whose types are turned one after the other, in place; what ty.turn tells. -/
import Derived.Test.YtidamlkekgnhgaaDoorTyL
namespace Go.Proofs.YtidamlkekgnhgaaDoor
set_option linter.unusedVariables false
set_option linter.unusedSimpArgs false
open Go.RowKit

/-- where the loop stands: of the row's types ts the first k are us' -/
def TurnI (ts us : List TyD) (B base : Nat) (v : Value) (m : Nat) (k : Nat) (w : World) : Prop :=
  ts.length = m ∧ us.length = m ∧ ∃ cs, w.ownsRow base 27 5 v m cs ∧ ∀ i (h : i < ts.length) (h2 : i < us.length), C5 w (fun b => if i < k then base ≤ b ∧ b < w.heap.size ∧ some b ≠ v.ownBlock else b < B) cs i (if i < k then us[i] else ts[i])
theorem TurnI.step {ts us : List TyD} {B base g m c k : Nat} {w w3 : World} (h : TurnI ts us B base (.slice (some ⟨g, 0, none⟩) m c) m k w) (hk : k < us.length) (u : TyD) (hu : us[k] = u) (hb : Below w.heap.size w w3) (hB : B ≤ base) (hbase : base ≤ w.heap.size)
    {A : Option Addr} {n d : Nat} (hx : TysS w3 (fun b => w.heap.size ≤ b ∧ b < w3.heap.size) A n d u.l) :
    TurnI ts us B base (.slice (some ⟨g, 0, none⟩) m c) m (k + 1) (w3.setCells g (k * 5) [.int .u8 u.k, .int .i64 u.n, .int .i64 u.v, .int .u8 u.c, .slice A n d]) ∧
      w3.grownBy (w3.setCells g (k * 5) [.int .u8 u.k, .int .i64 u.n, .int .i64 u.v, .int .u8 u.c, .slice A n d]) (some g) ∧ base ≤ g ∧ g < w.heap.size := by
  obtain ⟨hl, hl2, cs, hown, hc⟩ := h
  have hg := hown.lt g rfl
  have hown3 := ownsRow_beyond hown hb
  have hcl : cs.length = m * 5 := hown.1
  obtain ⟨⟨cs', h1, h2, h3⟩, h4⟩ := ownTy_setCells [.int .u8 u.k, .int .i64 u.n, .int .i64 u.v, .int .u8 u.c, .slice A n d] cs (k * 5) w3 hown3 (by rw [hcl]; simp; omega)
  simp only [List.length_cons, List.length_nil] at h2 h3
  have hs3 := hb.size
  have hs4 := h4.size
  have hcell : ∀ p : Addr, p.block ≠ g → p.block < w3.heap.size → (w3.setCells g (k * 5) [.int .u8 u.k, .int .i64 u.n, .int .i64 u.v, .int .u8 u.c, .slice A n d]).cell? p = w3.cell? p := fun p hp hlt =>
    World.cell?_of_block (h4.block p.block hlt (by intro e; injection e with e; exact hp e))
  refine ⟨⟨hl, hl2, cs', h1, fun i hi hi2 => ?_⟩, h4, hg.1, hg.2⟩
  rcases Nat.lt_trichotomy i k with hik | hik | hik
  · have h5 := hc i hi hi2
    simp only [if_pos hik] at h5
    rw [if_pos (show i < k + 1 by omega)]
    have h6 := (h5.congr fun x h7 h8 => h3 x (.inl (by omega)))
    refine h6.keep (fun b hb' => ?_) fun p hp => ?_
    · rw [if_pos (show i < k + 1 by omega)]; exact ⟨hb'.1, by omega, hb'.2.2⟩
    · rw [hcell p (fun e => hp.2.2 (by rw [e]; rfl)) (by omega)]
      exact hb.cell hp.2.1
  · subst hik
    rw [if_pos (show i < i + 1 by omega), hu]
    refine ⟨A, n, d, ?_, ?_, ?_, ?_, ?_, ?_⟩
    · rw [h2 _ (by omega) (by omega), Nat.sub_self]; rfl
    · rw [h2 _ (by omega) (by omega), show i * 5 + 1 - i * 5 = 1 from by omega]; rfl
    · rw [h2 _ (by omega) (by omega), show i * 5 + 2 - i * 5 = 2 from by omega]; rfl
    · rw [h2 _ (by omega) (by omega), show i * 5 + 3 - i * 5 = 3 from by omega]; rfl
    · rw [h2 _ (by omega) (by omega), show i * 5 + 4 - i * 5 = 4 from by omega]; rfl
    · refine hx.keep (fun b hb' => ?_) fun p hp => ?_
      · rw [if_pos (show i < i + 1 by omega)]
        refine ⟨by omega, by omega, fun e => ?_⟩
        have e' : b = g := by injection e
        omega
      · exact hcell p (fun e => by have := hp.1; omega) hp.2
  · have h5 := hc i hi hi2
    simp only [if_neg (show ¬ i < k by omega)] at h5
    rw [if_neg (show ¬ i < k + 1 by omega)]
    have h6 := (h5.congr fun x h7 h8 => h3 x (.inr (by omega)))
    refine h6.keep (fun b hb' => ?_) fun p hp => ?_
    · rw [if_neg (show ¬ i < k + 1 by omega)]; exact hb'
    · rw [hcell p (fun e => by omega) (by omega)]
      exact hb.cell (by omega)
theorem TurnI.done {ts us : List TyD} {B base m c : Nat} {A : Option Addr} {w : World} (h : TurnI ts us B base (.slice A m c) m m w) : TysS w (fun b => base ≤ b ∧ b < w.heap.size) A m c us := by
  obtain ⟨hl, hl2, cs, hown, hc⟩ := h
  rcases hown.2 with ⟨e0, hn⟩ | ⟨g, cap, cur, e0, hb, hg, hn, hm, hs, ht⟩
  · injection e0 with e1 e2 e3
    subst e1; subst e2; subst e3
    exact ⟨hl2, Nat.le_refl _, Nat.zero_le _, fun h => absurd h (by omega)⟩
  · injection e0 with e1 e2 e3
    subst e1; subst e3
    refine ⟨hl2, hn, hm, fun _ => ⟨g, 0, rfl, ⟨hb, (Array.getElem?_eq_some_iff.1 hg).1⟩, RowIn.of fun i hi => ?_⟩⟩
    have h5 := hc i (by omega) hi
    simp only [if_pos (show i < m by omega)] at h5
    have h6 : C5 w (fun b => base ≤ b ∧ b < w.heap.size) cs i us[i] := h5.keep (fun b hb => ⟨hb.1, hb.2.1⟩) fun _ _ => rfl
    exact h6.cells hown (by omega)
theorem TurnI.slot {ts us : List TyD} {B base m c k : Nat} {A : Option Addr} {w : World} (h : TurnI ts us B base (.slice A m c) m k w) (hk : k < ts.length) : ∃ g, A = some ⟨g, 0, none⟩ ∧ base ≤ g ∧ g < w.heap.size ∧
    ∃ A' n' c', w.cell? ⟨g, k * 5, none⟩ = some (.int .u8 ts[k].k) ∧ w.cell? ⟨g, k * 5 + 1, none⟩ = some (.int .i64 ts[k].n) ∧ w.cell? ⟨g, k * 5 + 2, none⟩ = some (.int .i64 ts[k].v) ∧ w.cell? ⟨g, k * 5 + 3, none⟩ = some (.int .u8 ts[k].c) ∧ w.cell? ⟨g, k * 5 + 4, none⟩ = some (.slice A' n' c') ∧
      TysV w B A' n' c' ts[k].l ∧ ∀ j, w.frozen? ⟨g, j, none⟩ = false := by
  obtain ⟨hl, hl2, cs, hown, hc⟩ := h
  rcases hown.2 with ⟨e0, hn⟩ | ⟨g, cap, cur, e0, hb, hg, hn, hm, hs, ht⟩
  · injection e0 with e1 e2 e3
    omega
  · injection e0 with e1 e2 e3
    subst e1; subst e3
    have h5 := hc k hk (by omega)
    simp only [if_neg (show ¬ k < k by omega)] at h5
    have h6 := h5.cells hown (by omega)
    rw [Nat.zero_add] at h6
    obtain ⟨q0, q1, q2, q3, A', n', c', q4, hr⟩ := tyIn_iff.1 h6
    exact ⟨g, rfl, hb, (Array.getElem?_eq_some_iff.1 hg).1, A', n', c', q0, q1, q2, q3, q4, tysS_lt.1 hr, fun j => hown.frozenAt j⟩
theorem TurnI.start {ts us : List TyD} {m c : Nat} {A : Option Addr} {W w1 : World} (h : OwnTy w1 W.heap.size (.slice A m c) m ts (fun _ b => b < W.heap.size)) (hu : us.length = ts.length) : TurnI ts us W.heap.size W.heap.size (.slice A m c) m 0 w1 := by
  obtain ⟨h1, cs, h2, h3⟩ := h
  refine ⟨h1, by omega, cs, h2, fun i hi _ => ?_⟩
  rw [if_neg (show ¬ i < 0 by omega)]
  exact (h3 i hi).keep (fun b hb => by rw [if_neg (show ¬ i < 0 by omega)]; exact hb) fun _ _ => rfl

/-- a type with others at its variables: fv tells the type at a variable, fm the Mu at a multiplicity's -/
def turnT (fv : Int → Option TyD) (fm : Int → Int × Int) : TyD → TyD
  | .mk k n v c l => if k = 1 then (fv n).getD (.mk k n v c l) else .mk k n (if k = 7 ∧ c = 0 then (fm v).1 else v) (if k = 7 ∧ c = 0 then (fm v).2 else c) (turnL fv fm l)
where turnL (fv : Int → Option TyD) (fm : Int → Int × Int) : List TyD → List TyD
  | [] => []
  | t :: r => turnT fv fm t :: turnL fv fm r
theorem turnL_map (fv : Int → Option TyD) (fm : Int → Int × Int) (l : List TyD) : turnT.turnL fv fm l = l.map (turnT fv fm) := by
  induction l with
  | nil => rfl
  | cons t r ih => rw [turnT.turnL, ih]; rfl
theorem turnT_eq (fv : Int → Option TyD) (fm : Int → Int × Int) (t : TyD) : turnT fv fm t = if t.k = 1 then (fv t.n).getD t else .mk t.k t.n (if t.k = 7 ∧ t.c = 0 then (fm t.v).1 else t.v) (if t.k = 7 ∧ t.c = 0 then (fm t.v).2 else t.c) (t.l.map (turnT fv fm)) := by
  cases t
  rw [turnT, turnL_map]
  rfl

end Go.Proofs.YtidamlkekgnhgaaDoor
