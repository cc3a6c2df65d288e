/- Texts of this claim, laid one behind the other: ElimLa, ElimIa, ElimIb, ElimLb. -/
import Derived.Test.YthabkpkgocafoaaEaI
import Derived.Test.YthabkpkgocafoaaEaN
import Derived.Test.YthabkpkgocafoaaEaH
import Derived.Test.YthabkpkgocafoaaEaG
import Derived.Test.YthabkpkgocafoaaEaJ
/- Plain: what ElimExact and ElimAgain need. -/
namespace Go.Proofs.Ythabkpkgocafoaa
set_option linter.unusedVariables false
set_option linter.unusedSimpArgs false
open Go.RowKit

/-! ### the inequalities of a table -/
def lowQ (i : Nat) (c : Int) : List IneqD := if 1 < c then [⟨0, c, 1, (i : Nat)⟩] else []
def upQ (i : Nat) (c : Int) : List IneqD := if c = 3 then [] else [⟨(i : Nat), 0, c, -1⟩]
def pairQ (i k : Nat) (c : Int) : List IneqD := if c = 3 ∨ i = k then [] else [⟨(i : Nat), 0, c, (k : Nat)⟩]
def rowE (t : TabD) (K i : Nat) : List IneqD := lowQ i (t.low.getD i 0) ++ upQ i (t.up.getD i 0) ++ (List.range K).flatMap fun k => pairQ i k (pairE t i k)
def ownE (t : TabD) (K : Nat) : List IneqD := (List.range K).flatMap (rowE t K)
theorem flatMap_len {α : Type} {f : Nat → List α} {m : Nat} (h : ∀ i, (f i).length ≤ m) : ∀ K, ((List.range K).flatMap f).length ≤ K * m
  | 0 => by simp
  | K + 1 => by
    rw [List.range_succ, List.flatMap_append, List.length_append]
    have := flatMap_len h K
    have := h K
    simp only [List.flatMap_cons, List.flatMap_nil, List.append_nil]
    rw [Nat.succ_mul]
    omega
theorem lowQ_len (i : Nat) (c : Int) : (lowQ i c).length ≤ 1 := by unfold lowQ; split <;> simp
theorem upQ_len (i : Nat) (c : Int) : (upQ i c).length ≤ 1 := by unfold upQ; split <;> simp
theorem pairQ_len (i k : Nat) (c : Int) : (pairQ i k c).length ≤ 1 := by unfold pairQ; split <;> simp
theorem rowE_len (t : TabD) (K i : Nat) : (rowE t K i).length ≤ K + 2 := by
  unfold rowE
  have h1 := lowQ_len i (t.low.getD i 0)
  have h2 := upQ_len i (t.up.getD i 0)
  have h3 := flatMap_len (f := fun k => pairQ i k (pairE t i k)) (m := 1) (fun k => pairQ_len i k _) K
  rw [List.length_append, List.length_append]
  omega
theorem ownE_len (t : TabD) (K : Nat) : (ownE t K).length ≤ K * (K + 2) := flatMap_len (fun i => rowE_len t K i) K
theorem mem_own {t : TabD} {K : Nat} {x : IneqD} : x ∈ ownE t K ↔ ∃ i, i < K ∧ (x ∈ lowQ i (t.low.getD i 0) ∨ x ∈ upQ i (t.up.getD i 0) ∨ ∃ k, k < K ∧ x ∈ pairQ i k (pairE t i k)) := by
  unfold ownE rowE
  simp only [List.mem_flatMap, List.mem_range, List.mem_append, or_assoc]
theorem mem_lowQ {i : Nat} {c : Int} {x : IneqD} : x ∈ lowQ i c ↔ 1 < c ∧ x = ⟨0, c, 1, (i : Nat)⟩ := by
  unfold lowQ
  split <;> rename_i h
  · rw [List.mem_singleton]
    exact ⟨fun e => ⟨h, e⟩, fun e => e.2⟩
  · exact ⟨fun e => absurd e (by simp), fun e => absurd e.1 h⟩
theorem mem_upQ {i : Nat} {c : Int} {x : IneqD} : x ∈ upQ i c ↔ c ≠ 3 ∧ x = ⟨(i : Nat), 0, c, -1⟩ := by unfold upQ; split <;> simp_all
theorem mem_pairQ {i k : Nat} {c : Int} {x : IneqD} : x ∈ pairQ i k c ↔ (c ≠ 3 ∧ i ≠ k) ∧ x = ⟨(i : Nat), 0, c, (k : Nat)⟩ := by
  unfold pairQ
  split <;> rename_i h
  · simp only [List.not_mem_nil, false_iff]
    rintro ⟨⟨h1, h2⟩, _⟩
    rcases h with h | h
    · exact h1 h
    · exact h2 h
  · simp only [List.mem_singleton]
    exact ⟨fun e => ⟨⟨fun e2 => h (.inl e2), fun e2 => h (.inr e2)⟩, e⟩, fun e => e.2⟩
/-- a table within bounds -/
structure RngT (K : Nat) (t : TabD) : Prop where
  low : ∀ i, i < K → 1 ≤ t.low.getD i 0 ∧ t.low.getD i 0 ≤ 3
  up : ∀ i, i < K → 1 ≤ t.up.getD i 0 ∧ t.up.getD i 0 ≤ 3
  pair : ∀ i j, i < K → j < K → 1 ≤ pairE t i j ∧ pairE t i j ≤ 3
theorem isB_one {c : Int} (h : 1 ≤ c ∧ c ≤ 3) : isB c 0 = true := by
  unfold isB oneB
  simp only [Bool.or_eq_true, Bool.and_eq_true, decide_eq_true_eq, beq_iff_eq]
  exact .inr ⟨h, trivial⟩
theorem bne_one {c : Int} (h : 1 ≤ c ∧ c ≤ 3) : (c != 0) = true := by
  rw [bne_iff_ne]; omega
theorem own_may {t : TabD} {K : Nat} (h : RngT K t) (hK : K ≤ 1000) : ∀ x ∈ ownE t K, mayL x (K : Int) = true := fun x hx => by
  obtain ⟨i, hi, hx⟩ := mem_own.1 hx
  have h1 := h.low i hi
  have h2 := h.up i hi
  rcases hx with hx | hx | ⟨k, hk, hx⟩
  · obtain ⟨hc, rfl⟩ := mem_lowQ.1 hx
    have e1 : isB (t.low.getD i 0) 0 = true := isB_one h1
    have e2 : ((t.low.getD i 0 != 0) = true) := bne_one h1
    unfold mayL mayX mayQ
    simp only [e1, e2, Bool.and_eq_true, Bool.or_eq_true, decide_eq_true_eq]
    exact ⟨⟨⟨⟨⟨⟨trivial, by omega⟩, by omega⟩, by omega⟩, by omega⟩, .inl trivial⟩, by omega⟩
  · obtain ⟨hc, rfl⟩ := mem_upQ.1 hx
    exact may_free hi hK h2.1 h2.2
  · obtain ⟨⟨hc, hik⟩, rfl⟩ := mem_pairQ.1 hx
    have h3 := h.pair i k hi hk
    have e1 : isB 0 (i : Int) = true := by unfold isB; simp; omega
    unfold mayL mayX mayQ
    simp only [e1, Bool.and_eq_true, Bool.or_eq_true, decide_eq_true_eq]
    exact ⟨⟨⟨⟨⟨⟨trivial, h3.1⟩, h3.2⟩, by omega⟩, by omega⟩, .inr (by omega)⟩, by omega⟩
theorem own_sol {t : TabD} {K : Nat} (h : RngT K t) {f : List Int} : SolE K (ownE t K) f ↔ InR K f ∧ LetsE K t f := by
  constructor
  · rintro ⟨hr, hs⟩
    refine ⟨hr, fun i hi => ⟨?_, ?_, fun j hj => ?_⟩⟩
    · by_cases hc : 1 < t.low.getD i 0
      · have := hs _ (mem_own.2 ⟨i, hi, .inl (mem_lowQ.2 ⟨hc, rfl⟩)⟩)
        unfold holdL leftL at this
        simp only at this
        rw [if_neg (by omega), if_pos (by omega), Int.toNat_natCast] at this
        have := (hr.2 i hi).1
        omega
      · have := (hr.2 i hi).1
        omega
    · by_cases hc : t.up.getD i 0 = 3
      · have := (hr.2 i hi).2
        omega
      · exact hold_var (u := i) (hs _ (mem_own.2 ⟨i, hi, .inr (.inl (mem_upQ.2 ⟨hc, rfl⟩))⟩)) rfl rfl
    · by_cases hc : pairE t i j = 3
      · have := (hr.2 i hi).2
        omega
      · by_cases hij : i = j
        · subst hij
          omega
        · have := hold_var (u := i) (hs _ (mem_own.2 ⟨i, hi, .inr (.inr ⟨j, hj, mem_pairQ.2 ⟨⟨hc, hij⟩, rfl⟩⟩)⟩)) rfl rfl
          simp only at this
          rw [if_pos (by omega), Int.toNat_natCast] at this
          exact this
  · rintro ⟨hr, hl⟩
    refine ⟨hr, fun x hx => ?_⟩
    obtain ⟨i, hi, hx⟩ := mem_own.1 hx
    obtain ⟨l1, l2, l3⟩ := hl i hi
    rcases hx with hx | hx | ⟨k, hk, hx⟩
    · obtain ⟨hc, rfl⟩ := mem_lowQ.1 hx
      unfold holdL leftL
      simp only
      rw [if_neg (by omega), if_pos (by omega), Int.toNat_natCast]
      omega
    · obtain ⟨hc, rfl⟩ := mem_upQ.1 hx
      exact hold_of (u := i) rfl rfl l2
    · obtain ⟨⟨hc, hik⟩, rfl⟩ := mem_pairQ.1 hx
      refine hold_of (u := i) rfl rfl ?_
      simp only
      rw [if_pos (by omega), Int.toNat_natCast]
      exact l3 k hk
theorem range_map {K : Nat} {f : List Int} (h : f.length = K) : (List.range K).map (fun v => f.getD v 0) = f := by
  refine List.ext_getElem (by simp [h]) fun i h1 h2 => ?_
  rw [List.getElem_map, List.getElem_range, getD_at h2]
/-- the table's own inequalities, all of their variables kept -/
theorem own_kept {t : TabD} {K : Nat} (h : RngT K t) {a : List Int} : KeptE K (ownE t K) (List.range K) a ↔ InR K a ∧ LetsE K t a := by
  constructor
  · rintro ⟨f, hf, rfl⟩
    rw [range_map hf.1.1]
    exact (own_sol h).1 hf
  · intro ha
    exact ⟨a, (own_sol h).2 ha, (range_map ha.1.1).symm⟩
section
variable {N : Nat} {n : Int} {xs : List IneqD} {keep : List Int} {t u : TabD} {er : Int}
theorem TableR.rng (h : TableR N xs keep t) : RngT keep.length t := ⟨h.tab.rl, h.tab.ru, h.tab.rp⟩
theorem kept_inR {kn : List Nat} (hk : ∀ v ∈ kn, v < N) {a : List Int} (h : KeptE N xs kn a) : InR kn.length a := by
  obtain ⟨f, hf, rfl⟩ := h
  refine ⟨by simp, fun v hv => ?_⟩
  rw [kept_at hv]
  exact hf.1.2 _ (hk _ (List.getElem_mem hv))
theorem TableR.exact (h : TableR N xs keep t) {a : List Int} (hr : InR keep.length a) (ha : LetsE keep.length t a) : KeptE N xs (keep.map Int.toNat) a := by
  obtain ⟨low, h1, h2, h3⟩ := h.ex
  have hl : (keep.map Int.toNat).length = keep.length := List.length_map _
  exact proj_exact h.ok.well h1 h.nat h3 (by rw [hr.1, hl]) (by rw [hl]; exact ha) fun i hi => (hr.2 i (by rw [← hl]; exact hi)).1
theorem TableR.iff (h : TableR N xs keep t) (a : List Int) : KeptE N xs (keep.map Int.toNat) a ↔ KeptE keep.length (ownE t keep.length) (List.range keep.length) a := by
  rw [own_kept h.rng]
  constructor
  · intro ha
    have := kept_inR h.nat ha
    rw [List.length_map] at this
    exact ⟨this, h.tab.lets a ha⟩
  · intro ha
    exact h.exact ha.1 ha.2
theorem range_nat (K : Nat) : (natK (List.range K)).map Int.toNat = List.range K := by
  unfold natK
  rw [List.map_map]
  exact (List.map_congr_left fun v _ => by simp).trans (List.map_id _)
theorem range_keep (K : Nat) : KeepOk (K : Int) (natK (List.range K)) := by
  constructor
  · intro v hv
    unfold natK at hv
    obtain ⟨i, hi, rfl⟩ := List.mem_map.1 hv
    have := List.mem_range.1 hi
    omega
  · unfold natK
    rw [List.nodup_iff_pairwise_ne, List.pairwise_map]
    exact List.nodup_range.imp fun {a b} h e => h (by omega)
theorem again_same (h : TableR N xs keep t) (hK : keep.length ≤ 6) (hu : ProjR (keep.length : Int) (ownE t keep.length) (natK (List.range keep.length)) u er) : er = 0 ∧ u = t := by
  have hlen : (ownE t keep.length).length ≤ 1048576 := Nat.le_trans (ownE_len t keep.length) (by have : keep.length * (keep.length + 2) ≤ 6 * 8 := Nat.mul_le_mul hK (by omega); omega)
  have hok : OkS (keep.length : Int) [] (ownE t keep.length) := ⟨by omega, .inl rfl, own_may h.rng (by omega), fun z hz => absurd hz (by simp)⟩
  obtain ⟨low, h1, h2, h3⟩ := h.ex
  have ha : KeptE N xs (keep.map Int.toNat) ((keep.map Int.toNat).map fun v => low.getD v 0) := ⟨low, h1, rfl⟩
  have ha2 := (own_kept h.rng).1 ((h.iff _).1 ha)
  have h0 := hu.yes (by omega) hlen hok (by simp [natK]; omega) ((own_sol h.rng).2 ha2) (range_keep _)
  obtain ⟨N', hN', htab⟩ := hu.table h0
  obtain rfl : keep.length = N' := by omega
  refine ⟨h0, ?_⟩
  have t1 := htab.tab
  rw [range_nat, show (natK (List.range keep.length)).length = keep.length by simp [natK]] at t1
  exact t1.unique (h.tab.congr h.iff)
theorem again_tail {z : Int} {ks : List Int} (h : TableR N xs (z :: ks) t) (hu : ProjR (N : Int) xs ks u er) : er = 0 ∧ u.low.length = ks.length ∧ u.up.length = ks.length ∧ u.pair.length = ks.length ∧ ∀ i, i < ks.length → u.low.getD i 0 = t.low.getD (i + 1) 0 ∧ u.up.getD i 0 = t.up.getD (i + 1) 0 ∧ u.pair.getD i [] = (t.pair.getD (i + 1) []).drop 1 := by
  obtain ⟨low, h1, h2, h3⟩ := h.ex
  have hf := h.few
  have h0 := hu.yes h.n20 h.l20 h.ok (by simp at hf; omega) h1 ⟨fun v hv => h.keeps.1 v (List.mem_cons_of_mem _ hv), (List.nodup_cons.1 h.keeps.2).2⟩
  obtain ⟨N', hN', htab⟩ := hu.table h0
  obtain rfl : N = N' := by omega
  refine ⟨h0, htab.tab.ll, htab.tab.ul, htab.tab.pl, fun i hi => ?_⟩
  rw [htab.ref, h.ref]
  unfold refTab
  have hi2 : i < (ks.map Int.toNat).length := by simpa using hi
  refine ⟨rfl, rfl, ?_⟩
  show ((ks.map Int.toNat).map fun v => (ks.map Int.toNat).map fun r => rowB fun a b => twoB N xs v a r b).getD i [] = (((ks.map Int.toNat).map fun v => (z.toNat :: ks.map Int.toNat).map fun r => rowB fun a b => twoB N xs v a r b).getD i []).drop 1
  rw [map_getD hi2, map_getD hi2]
  rfl

/-! ### ElimExact -/
def clampE (l : List Int) : List Int := l.map fun z => if 1 ≤ z ∧ z ≤ 3 then z else 1
theorem clamp_at {l : List Int} {v : Nat} (h : v < l.length) : (clampE l).getD v 0 = if 1 ≤ l.getD v 0 ∧ l.getD v 0 ≤ 3 then l.getD v 0 else 1 := by
  unfold clampE
  rw [getD_at (by simpa using h), List.getElem_map, getD_at h]
theorem clamp_len (l : List Int) : (clampE l).length = l.length := by simp [clampE]
theorem clamp_inR {l : List Int} (h : l.length = N) : InR N (clampE l) := by
  refine ⟨by rw [clamp_len, h], fun v hv => ?_⟩
  rw [clamp_at (by omega)]
  split <;> omega
theorem okV_iff {l : List Int} {v : Int} : okV l v = true ↔ v < l.length ∧ 1 ≤ l.getD v.toNat 0 ∧ l.getD v.toNat 0 ≤ 3 := by
  unfold okV oneB atV
  simp only [Bool.and_eq_true, decide_eq_true_eq]
theorem clamp_ok {l : List Int} {v : Int} (h0 : 0 ≤ v) (h : okV l v = true) : atK (clampE l) v = atK l v := by
  obtain ⟨h1, h2⟩ := okV_iff.1 h
  have hv : v.toNat < l.length := by omega
  have hc := clamp_at hv
  rw [if_pos h2] at hc
  have h3 : okV (clampE l) v = true := okV_iff.2 ⟨by rw [clamp_len]; exact h1, by rw [hc]; exact h2⟩
  unfold atK
  rw [if_pos h, if_pos h3]
  unfold atV
  exact hc
theorem clamp_sol {all : List Int} (hok : OkS (N : Int) [] xs) (hl : all.length = N) (h1 : (holdsAll all xs).1 < 0) : SolE N xs (clampE all) := by
  obtain ⟨_, hb, hh⟩ := holdsAll_neg h1
  refine ⟨clamp_inR hl, fun x hx => ?_⟩
  have hov := OverL.of_may (hok.may x hx)
  have hin := clamp_inR (N := N) hl
  refine (holdsQ_iff hov hin.1 hin.2).2.1 ?_
  have hbx := hb x hx
  have hhx := hh x hx
  unfold badX badQ at hbx
  unfold holdsX at hhx
  rw [Bool.or_eq_false_iff] at hbx
  have e1 : leftQ (clampE all) x.lv x.lc = leftQ all x.lv x.lc := by
    unfold leftQ
    by_cases h0 : x.lc = 0
    · rw [if_pos h0, if_pos h0]
      refine clamp_ok (hov.lv h0).1 ?_
      have := hbx.1
      simpa [h0] using this
    · rw [if_neg h0, if_neg h0]
  have e2 : rightQ (clampE all) x.c x.r = rightQ all x.c x.r := by
    unfold rightQ
    by_cases h0 : 0 ≤ x.r
    · rw [if_pos h0, if_pos h0, clamp_ok h0 (by have := hbx.2; simpa [h0] using this)]
    · rw [if_neg h0, if_neg h0]
  unfold holdsQ at hhx ⊢
  rw [e1, e2]
  exact hhx
/-- the kept ones of an assignment -/
def ownA (keep : List Int) (all : List Int) : List Int := (keep.map Int.toNat).map fun v => all.getD v 0
theorem exact_fore {all : List Int} (h : TableR N xs keep t) (hl : all.length = N) (h1 : (holdsAll all xs).1 < 0) (hn : noneB (ownA keep all) = false) : LetsA keep.length t (ownA keep all) := by
  have hs := clamp_sol h.ok hl h1
  have e : ownA keep all = (keep.map Int.toNat).map fun v => (clampE all).getD v 0 := by
    refine List.map_congr_left fun v hv => ?_
    have hv2 : v < all.length := by rw [hl]; exact h.nat v hv
    rw [clamp_at hv2, if_pos]
    obtain ⟨i, hi, he⟩ := List.getElem_of_mem hv
    have := noneB_rng hn i (by simpa [ownA] using hi)
    have e2 : (ownA keep all).getD i 0 = all.getD v 0 := by
      unfold ownA
      rw [kept_at hi, he]
    rw [e2] at this
    exact this
  refine ⟨by simp [ownA], hn, ?_⟩
  refine h.tab.lets _ ?_
  rw [e]
  exact ⟨_, hs, rfl⟩
theorem setE_self {kn : List Nat} {a : List Int} (hlt : ∀ v ∈ kn, v < N) (hd : kn.Nodup) {i : Nat} (hi : i < kn.length) : (setE (List.replicate N 1) kn a kn.length).getD (kn.getD i 0) 0 = a.getD i 0 := by
  obtain ⟨j, hj, e, e2⟩ := (setE_at (low := List.replicate N 1) (a := a) (fun v hv => by rw [List.length_replicate]; exact hlt v hv) kn.length (Nat.le_refl _) (kn.getD i 0)).2 ⟨i, hi, rfl⟩
  have hij : j = i := by
    rw [List.getD_eq_getElem?_getD, List.getD_eq_getElem?_getD, List.getElem?_eq_getElem hj, List.getElem?_eq_getElem hi] at e
    exact nodup_at hd hj hi e
  rw [e2, hij]
theorem lets_rng {K : Nat} {a : List Int} (h : LetsA K t a) : InR K a := ⟨h.1, fun v hv => noneB_rng h.2.1 v (by rw [h.1]; exact hv)⟩
theorem exact_ok {a : List Int} (h : TableR N xs keep t) (hN : N ≤ 1000) (ha : LetsA keep.length t a) : OkS (N : Int) (setE (List.replicate N 1) (keep.map Int.toNat) a keep.length) (xs ++ freeE (keep.map Int.toNat) a) := by
  have hl : (keep.map Int.toNat).length = keep.length := List.length_map _
  have hr := lets_rng ha
  refine ⟨by omega, .inr (by rw [setE_len]; simp), fun x hx => ?_, setE_rng (fun i hi => hr.2 i (by rw [← hr.1]; exact hi)) _ (by rw [hr.1]; exact Nat.le_refl _)⟩
  rcases List.mem_append.1 hx with q | q
  · exact h.ok.may x q
  · obtain ⟨i, hi, rfl⟩ := mem_free.1 q
    have := hr.2 i (by rw [← hl]; exact hi)
    exact may_free (keep_lt h.nat hi) hN this.1 this.2
theorem exact_back {a is core : List Int} (h : TableR N xs keep t) (hN : N ≤ 1000) (hx : xs.length ≤ 1000) (hk : keep.length ≤ 1000) (ha : LetsA keep.length t a) (hS : SolveR (N : Int) (setE (List.replicate N 1) (keep.map Int.toNat) a keep.length) (xs ++ freeE (keep.map Int.toNat) a) is core er) : er = 0 ∧ is.length = N ∧ ∀ i, i < keep.length → is.getD ((keep.map Int.toNat).getD i 0) 0 = a.getD i 0 := by
  have hl : (keep.map Int.toNat).length = keep.length := List.length_map _
  have hr := lets_rng ha
  obtain ⟨f, hf, he⟩ := h.exact hr ha.2.2
  have hnat := h.nat
  have hnd := h.keeps.nat
  have hex : ∃ f, SolE N xs f ∧ ∀ i, i < (keep.map Int.toNat).length → f.getD ((keep.map Int.toNat).getD i 0) 0 = a.getD i 0 := ⟨f, hf, fun i hi => by
    rw [he, kept_at hi, List.getD_eq_getElem?_getD (l := keep.map Int.toNat), List.getElem?_eq_getElem hi]
    rfl⟩
  have hok2 := exact_ok h hN ha
  have hiff := (free_iff (a := a) h.ok.well hnat hnd fun i hi => hr.2 i (by rw [← hl]; exact hi)).2 hex
  rw [hl] at hiff
  obtain ⟨g, hg⟩ := hiff
  have hslen : (setE (List.replicate N 1) (keep.map Int.toNat) a keep.length).length = N := by rw [setE_len]; simp
  obtain ⟨h0, _, hls⟩ := hS.solv (by omega) (by rw [List.length_append, free_len, hl]; omega) hok2 (by rw [low0_self hslen]; exact hg)
  rw [low0_self hslen] at hls
  refine ⟨h0, by rw [hls.sol.len, hslen], fun i hi => ?_⟩
  have hi2 : i < (keep.map Int.toNat).length := by rw [hl]; exact hi
  have h1 := hls.sol.low ((keep.map Int.toNat).getD i 0) (by rw [hslen]; exact keep_lt hnat hi2)
  have h2 := setE_self (a := a) hnat hnd hi2
  rw [hl] at h2
  rw [h2] at h1
  have h3 := hold_var (u := (keep.map Int.toNat).getD i 0) (hls.sol.hold _ (List.mem_append_right _ (mem_free.2 ⟨i, hi2, rfl⟩))) rfl rfl
  have h4 : is.getD ((keep.map Int.toNat).getD i 0) 0 ≤ a.getD i 0 := h3
  omega
end
end Go.Proofs.Ythabkpkgocafoaa

/- The contract of the closure of elim.Ineqs that puts inequalities to the list. -/
namespace Go.Proofs.Ythabkpkgocafoaa
set_option linter.unusedVariables false
set_option linter.unusedSimpArgs false
open Go.RowKit

/-! ### what Fits makes of a table's parts -/
theorem fits_low {i : Nat} {c : Int} (h : 1 ≤ c) : fitsQ ⟨false, c, []⟩ 1 (i : Nat) 0 = lowQ i c := by
  have e : max (1 : Int) 0 = 1 := by omega
  unfold fitsQ fitsL leastT putsV putQ putsQ lowQ
  rw [e]
  simp only [Bool.false_eq_true, if_false, List.flatMap_nil, List.append_nil, if_true]
  by_cases h1 : 1 < c
  · have : c ≠ 0 := by omega
    simp [h1, this]
  · obtain rfl : c = 1 := by omega
    simp
theorem fits_up {i : Nat} {c : Int} (h : 1 ≤ c ∧ c ≤ 3) : fitsQ ⟨false, 1, [(i : Int)]⟩ 1 0 c = upQ i c := by
  have e : max 1 c = c := by omega
  have e2 : c ≠ 0 := by omega
  unfold fitsQ fitsL leastT putsV putQ putsQ upQ
  rw [e, if_neg e2]
  have h2 : ¬ c < 1 := by omega
  have h3 : ((i : Int) == -1) = false := by simp
  by_cases h1 : c = 3
  · subst h1; simp
  · simp [h1, h2, h3]
theorem fits_pair {i k : Nat} {c : Int} (h : 1 ≤ c ∧ c ≤ 3) : fitsQ ⟨false, 1, [(i : Int)]⟩ c (k : Nat) 0 = pairQ i k c := by
  have e : max c 0 = c := by omega
  have h2 : ¬ c < 1 := by omega
  unfold fitsQ fitsL leastT putsV putQ putsQ pairQ
  rw [e]
  by_cases h1 : c = 3
  · subst h1; simp
  · by_cases h3 : i = k
    · subst h3; simp [h2]
    · have h4 : ((i : Int) == (k : Int)) = false := by simp; omega
      have h5 : ¬ (i : Int) = (k : Int) := by omega
      simp [h1, h2, h3, h5]
theorem fitsB_low {i : Nat} {c : Int} (h : 1 ≤ c ∧ c ≤ 3) (hi : i < 1000) : fitsB ⟨false, c, []⟩ 1 (i : Nat) 0 = true := by
  have e1 : isB 0 (i : Int) = true := by unfold isB; simp; omega
  have e2 : oneB c = true := by unfold oneB; simp; omega
  unfold fitsB mayB
  simp [e1, e2, varsB]
theorem mayB_self {i : Nat} (hi : i < 1000) : mayB ⟨false, 1, [(i : Int)]⟩ = true := by
  have e2 : oneB 1 = true := by decide
  unfold mayB
  simp [e2, varsB, varB]
  omega
theorem fitsB_up {i : Nat} {c : Int} (h : 1 ≤ c ∧ c ≤ 3) (hi : i < 1000) : fitsB ⟨false, 1, [(i : Int)]⟩ 1 0 c = true := by
  have e1 : isB c 0 = true := isB_one h
  unfold fitsB
  simp [e1, mayB_self hi]
theorem fitsB_pair {i k : Nat} {c : Int} (h : 1 ≤ c ∧ c ≤ 3) (hi : i < 1000) (hk : k < 1000) : fitsB ⟨false, 1, [(i : Int)]⟩ c (k : Nat) 0 = true := by
  have e1 : isB 0 (k : Int) = true := by unfold isB; simp; omega
  unfold fitsB
  simp [e1, mayB_self hi]
  omega

/-! ### memory: a list in a variable grows -/
structure Grew2 (p : Nat) (v v' : Value) (w w' : World) : Prop where
  os : w'.os = w.os
  tape : w'.tape = w.tape
  output : w'.output = w.output
  size : w.heap.size ≤ w'.heap.size
  block : ∀ b, b < w.heap.size → b ≠ p → v.ownBlock ≠ some b → w'.heap[b]? = w.heap[b]?
  own : v'.ownBlock = v.ownBlock ∨ ∀ b, v'.ownBlock = some b → w.heap.size ≤ b
section
variable {p : Nat} {v v' : Value} {w w' : World}
theorem Grew2.below {B0 : Nat} (h : Grew2 p v v' w w') (hp : B0 ≤ p) (hv : ∀ b, v.ownBlock = some b → B0 ≤ b) (hs : B0 ≤ w.heap.size) : Below B0 w w' :=
  ⟨h.os, h.tape, h.output, h.size, fun k hk => h.block k (by omega) (by omega) fun e => by have := hv k e; omega⟩
theorem Grew2.blk {s : Nat} {t : TypeId} {cs : Array Value} (h : Grew2 p v v' w w') (hk : Blk w s t cs) (hne : s ≠ p) (hv : v.ownBlock ≠ some s) : Blk w' s t cs := (h.block s hk.lt hne hv).trans hk
theorem Grew2.ne {s : Nat} (h : Grew2 p v v' w w') (hs : s < w.heap.size) (hv : v.ownBlock ≠ some s) : v'.ownBlock ≠ some s := fun e => by
  rcases h.own with q | q
  · exact hv (q ▸ e)
  · have := q s e; omega
end
/-- the list of inequalities in its variable -/
def OutM (w : World) (p B : Nat) (v : Value) (xs : List IneqD) : Prop :=
  (∃ A cap, v = .slice A xs.length cap) ∧ Blk w p 35 #[v] ∧ w.ownsRow B 31 4 v xs.length (cellsQ xs)
theorem OutM.fresh {w w' : World} {p B : Nat} {v : Value} {xs : List IneqD} (h : OutM w p B v xs) (hb : Below w.heap.size w w') : OutM w' p B v xs :=
  ⟨h.1, h.2.1.below hb h.2.1.lt, ownsRow_beyond h.2.2 hb⟩
set_option maxRecDepth 100000 in
set_option maxHeartbeats 1000000 in
theorem put5_any (tv : Value) (t : TermD) (g mv mc : Int) (p B : Nat) (v : Value) (xs : List IneqD) (w : World) (hv : TermV w w.heap.size tv t) (h : fitsB t g mv mc = true) (hbig : t.vars.length ≤ 1000) (ho : OutM w p B v xs) (hp : p < B) (hB : B ≤ w.heap.size) (hxl : xs.length ≤ 1000000) (hfl : (fitsQ t g mv mc).length ≤ 1000) :
    Calls Try.prog 61 #[tv, .int .u8 g, .agg #[.int .i64 mv, .int .u8 mc], .pointer (some ⟨p, 0, none⟩)] w fun e w' => e = .returned (.tuple #[]) ∧ ∃ v', OutM w' p B v' (xs ++ fitsQ t g mv mc) ∧ Grew2 p v v' w w' := by
  obtain ⟨i0, hi0, hz0, hz1, hz2⟩ := info_parts ineqInfoP
  obtain ⟨At, nt, ct, rfl, hr⟩ := hv
  obtain ⟨⟨A, cap, rfl⟩, hk, how⟩ := ho
  have hba := below_box (w := w) (Obj.cells #[.bool t.never, .int .u8 t.c, .slice At nt ct] 99)
  have hsa : (w.alloc (Obj.cells #[.bool t.never, .int .u8 t.c, .slice At nt ct] 99)).heap.size = w.heap.size + 1 := by simp
  have hbb := hba.trans ((below_box (w := w.alloc (Obj.cells #[.bool t.never, .int .u8 t.c, .slice At nt ct] 99)) (Obj.cells #[.int .i64 mv, .int .u8 mc] 29)).mono hba.size)
  have hka := (blk_new w #[.bool t.never, .int .u8 t.c, .slice At nt ct] 99).alloc (Obj.cells #[.int .i64 mv, .int .u8 mc] 29)
  have hkb := blk_new (w.alloc (Obj.cells #[.bool t.never, .int .u8 t.c, .slice At nt ct] 99)) #[.int .i64 mv, .int .u8 mc] 29
  rw [hsa] at hkb
  obtain ⟨w2, hw2⟩ : ∃ x, (w.alloc (Obj.cells #[.bool t.never, .int .u8 t.c, .slice At nt ct] 99)).alloc (Obj.cells #[.int .i64 mv, .int .u8 mc] 29) = x := ⟨_, rfl⟩
  rw [hw2] at hbb hka hkb
  have Hw2 := Lib.hid hw2
  have Hbb := Lib.hid hbb
  have Hk2 := Lib.hid (hk.below hbb hk.lt)
  have Ho2 := Lib.hid (ownsRow_beyond how hbb)
  have Hr2 := Lib.hid ((hr.below hbb).more hbb.size)
  have hpB : p < w.heap.size := hk.lt
  have Hlt : Hid (∀ b, (Value.slice A xs.length cap).ownBlock = some b → B ≤ b ∧ b < w.heap.size) := Lib.hid fun b e => ownsRow_lt how e
  clear hba hsa hbb hka hkb hw2 hk how hr
  go_enter Try.func61, Try.ntmps61
  go_wp2_with fail
  rw [Hw2.out]
  refine (fits_yes _ t g mv mc w2 w2.heap.size ⟨At, nt, ct, rfl, Hr2.out⟩ (Nat.le_refl _) h (by omega)).mono ?_
  rintro e w3 ⟨Aq, nq, cq, rfl, hq, hb3⟩
  have hql := hq.len
  have Hb3 := Lib.hid (Hbb.out.trans (hb3.mono Hbb.out.size))
  have Hk3 := Lib.hid (Hk2.out.below hb3 Hk2.out.lt)
  have Ho3 := Lib.hid (ownsRow_beyond Ho2.out hb3)
  have Hq := Lib.hid hq
  have x0 : w3.cell? ⟨p, 0, none⟩ = some (.slice A xs.length cap) := Hk3.out.cell 0
  have hs3 := Hb3.out.size
  clear hq hb3
  have q1 : xs.length + nq ≤ maxLen := by unfold maxLen; omega
  have q2 : (xs.length + nq) * 32 ≤ 140737488355328 := by omega
  have q3 : B ≤ w3.heap.size := by omega
  have hne7 : some p ≠ (Value.slice A xs.length cap).ownBlock := fun e => by have := (Hlt.out p e.symm).1; omega
  have Hne7 := Lib.hid hne7
  have Q2 := Lib.hid q2
  have Q1 := Lib.hid q1
  have Q3 := Lib.hid q3
  clear q1 q2 q3 hne7
  go_wp2_with (at_builtin; refine wpList_append_rd _ rfl (.tmp 16) (.tmp 17) 35 rfl B 31 i0 _ 4 32 Try.underlying35 hi0 hz0 hz1 hz2 rfl (by omega) (.slice A xs.length cap) xs.length (cellsQ xs) rfl Ho3.out w3.heap.size Aq nq cq (cellsQ (fitsQ t g mv mc)) rfl Hq.out.rd4 (cellsQ_one _) Q1.out Q2.out Q3.out ?_; intro v7 w7 ho7 hg7 hat7; obtain ⟨A7, c7, rfl⟩ := ownsRow_form ho7; have hk7 := Hk3.out.grown hg7 Hne7.out; have x7 : w7.cell? ⟨p, 0, none⟩ = some (.slice A xs.length cap) := hk7.cell 0; have f7 : w7.frozen? ⟨p, 0, none⟩ = false := hk7.frozen 0; clear x0)
  have hlen : xs.length + nq = (xs ++ fitsQ t g mv mc).length := by rw [List.length_append, hql]
  rw [hlen] at ho7 hat7 ⊢
  have hown : (w7.setCell ⟨p, 0, none⟩ (.slice A7 (xs ++ fitsQ t g mv mc).length c7)).ownsRow B 31 4 (.slice A7 (xs ++ fitsQ t g mv mc).length c7) (xs ++ fitsQ t g mv mc).length (cellsQ (xs ++ fitsQ t g mv mc)) := ownsRow_setCell_below (by rw [cellsQ_append]; exact ho7) (a := ⟨p, 0, none⟩) hp _
  have hblk := hk7.set_ 0 (.slice A7 (xs ++ fitsQ t g mv mc).length c7)
  have hgr : Grew2 p (.slice A xs.length cap) (.slice A7 (xs ++ fitsQ t g mv mc).length c7) w (w7.setCell ⟨p, 0, none⟩ (.slice A7 (xs ++ fitsQ t g mv mc).length c7)) := by
    refine ⟨hg7.os.trans Hb3.out.os, hg7.tape.trans Hb3.out.tape, hg7.output.trans Hb3.out.output, ?_, fun b hb h1 h2 => ?_, ?_⟩
    · have := hg7.size
      simp [World.setCell]
      omega
    · rw [Below.heap_setCell _ _ _ _ h1, hg7.block b (by omega) (fun e => h2 e.symm), Hb3.out.block b hb]
    · rcases hat7 with e | e
      · exact .inl e
      · exact .inr fun b hb => by rw [e] at hb; injection hb with hb; omega
  refine bodyPost_end (v := .tuple #[]) ?_ rfl ?_
  · simp [results, Try.results61, go_sem]
  · exact ⟨rfl, _, ⟨⟨A7, c7, rfl⟩, hblk, hown⟩, hgr⟩
end Go.Proofs.Ythabkpkgocafoaa

/- The contract of elim.Ineqs. -/
namespace Go.Proofs.Ythabkpkgocafoaa
set_option linter.unusedVariables false
set_option linter.unusedSimpArgs false
open Go.RowKit

theorem flat_succ {α : Type} (f : Nat → List α) (k : Nat) : (List.range (k + 1)).flatMap f = (List.range k).flatMap f ++ f k := by
  rw [List.range_succ, List.flatMap_append]; simp
theorem self_termV {W : World} {s : Nat} {i : Nat} (h : Blk W s 3 #[.int .i64 (i : Nat)]) : TermV W W.heap.size (.agg #[.bool false, .int .u8 1, .slice (some ⟨s, 0, none⟩) 1 1]) ⟨false, 1, [(i : Int)]⟩ :=
  ⟨some ⟨s, 0, none⟩, 1, 1, rfl, rd_blkK (us := [(i : Int)]) h rfl (by unfold maxLen; omega)⟩
/-- what holds in a round: the list, and the variable's own term -/
structure RndM (w3 : World) (p s1 s2 i : Nat) (W : World) (v : Value) (xs : List IneqD) : Prop where
  out : OutM W p (p + 1) v xs
  k1 : Blk W s1 3 #[.int .i64 (i : Nat)]
  k2 : Blk W s2 99 #[.bool false, .int .u8 1, .slice (some ⟨s1, 0, none⟩) 1 1]
  n1 : v.ownBlock ≠ some s1
  n2 : v.ownBlock ≠ some s2
  bel : Below p w3 W
  sz : p + 1 ≤ W.heap.size
theorem RndM.put {w3 : World} {p s1 s2 i : Nat} {W W' : World} {v v' : Value} {xs ys : List IneqD} (h : RndM w3 p s1 s2 i W v xs) (h1 : p < s1) (h2 : p < s2) (ho : OutM W' p (p + 1) v' ys) (hg : Grew2 p v v' W W') : RndM w3 p s1 s2 i W' v' ys :=
  ⟨ho, hg.blk h.k1 (by omega) h.n1, hg.blk h.k2 (by omega) h.n2, hg.ne h.k1.lt h.n1, hg.ne h.k2.lt h.n2, h.bel.trans (hg.below (Nat.le_refl _) (fun b e => by have := (ownsRow_lt h.out.2.2 e).1; omega) (by have := h.sz; omega)), Nat.le_trans h.sz hg.size⟩
theorem RndM.drew {w3 : World} {p s1 s2 i : Nat} {W : World} {v : Value} {xs : List IneqD} (h : RndM w3 p s1 s2 i W v xs) : RndM w3 p s1 s2 i W.drew v xs :=
  ⟨⟨h.out.1, h.out.2.1, h.out.2.2⟩, h.k1, h.k2, h.n1, h.n2, Below.drew h.bel, h.sz⟩
set_option maxRecDepth 100000 in
set_option maxHeartbeats 4000000 in
theorem ineqs5_any (K : Nat) (t : TabD) (v : Value) (w : World) (hok : OkTab K t) (hrng : RngT K t) (hK : K ≤ 6) (hv : TabV w w.heap.size v t) :
    Calls Try.prog 38 #[v] w fun e w' => ∃ A c, e = .returned (.tuple #[.slice A (ownE t K).length c, .int .i64 0]) ∧ IneqsV w' w'.heap.size A (ownE t K).length c (ownE t K) ∧ Below w.heap.size w w' := by
  have hll := hok.ll
  subst hll
  obtain ⟨A1, c1, A2, c2, A3, c3, rfl, hq1, hq2, hq3⟩ := hv
  have hT := blk_new w #[.slice A1 t.low.length c1, .slice A2 t.up.length c2, .slice A3 t.pair.length c3] 50
  have hbT := below_box (w := w) (Obj.cells #[.slice A1 t.low.length c1, .slice A2 t.up.length c2, .slice A3 t.pair.length c3] 50)
  obtain ⟨w1, hw1⟩ : ∃ x, w.alloc (Obj.cells #[.slice A1 t.low.length c1, .slice A2 t.up.length c2, .slice A3 t.pair.length c3] 50) = x := ⟨_, rfl⟩
  rw [hw1] at hT hbT
  have Hw1 := Lib.hid hw1
  have HT := Lib.hid hT
  have HbT := Lib.hid hbT
  have Hq1 := Lib.hid hq1
  have Hq2 := Lib.hid hq2
  have Hq3 := Lib.hid hq3
  have HOk := Lib.hid hok
  have Hrng := Lib.hid hrng
  have hul := hok.ul
  have hpl := hok.pl
  have Hul := Lib.hid hul
  have Hpl := Lib.hid hpl
  have x0 : w1.cell? ⟨w.heap.size, 0, none⟩ = some (.slice A1 t.low.length c1) := hT.cell 0
  have x1 : w1.cell? ⟨w.heap.size, 1, none⟩ = some (.slice A2 t.up.length c2) := hT.cell 1
  have x2 : w1.cell? ⟨w.heap.size, 2, none⟩ = some (.slice A3 t.pair.length c3) := hT.cell 2
  rw [← Hw1.out] at x0 x1 x2
  have l63 : t.low.length ≤ 9223372036854775807 := by omega
  clear hw1 hT hbT hq1 hq2 hq3 hok hrng hul hpl
  go_enter Try.func38, Try.ntmps38
  go_wp2_with fail
  rw [Hw1.out]
  refine (tabMay_ok HOk.out _ w1 (show TabV w1 w1.heap.size _ t from ⟨_, _, _, _, _, _, rfl, Hq1.out.freshM HbT.out, Hq2.out.freshM HbT.out, Hq3.out.fresh HbT.out⟩)).mono ?_
  rintro e w2 ⟨rfl, hb2⟩
  clear x0 x1 x2
  have hbx := below_box (w := w2) (Obj.cells #[.slice none 0 0] 35)
  have hkx := blk_new w2 #[.slice none 0 0] 35
  obtain ⟨w3, hw3⟩ : ∃ x, w2.alloc (Obj.cells #[.slice none 0 0] 35) = x := ⟨_, rfl⟩
  rw [hw3] at hbx hkx
  have hs3 : w3.heap.size = w2.heap.size + 1 := by rw [← hw3]; simp
  have hb3 := HbT.out.trans ((hb2.trans (hbx.mono hb2.size)).mono HbT.out.size)
  have Hw3 := Lib.hid hw3
  have Hb3 := Lib.hid hb3
  have Hout3 : Hid (OutM w3 w2.heap.size (w2.heap.size + 1) (.slice none 0 0) []) := Lib.hid ⟨⟨none, 0, rfl⟩, hkx, World.ownsRow_nil _ _ _ _⟩
  have hT3 : Blk w3 w.heap.size 50 #[.slice A1 t.low.length c1, .slice A2 t.up.length c2, .slice A3 t.pair.length c3] := HT.out.below (hb2.trans (hbx.mono hb2.size)) HT.out.lt
  have hqp : w.heap.size < w2.heap.size := Nat.lt_of_lt_of_le HT.out.lt hb2.size
  have Hs3 := Lib.hid hs3
  -- what lies below the list stays
  have HTQ : Hid (∀ W, Below w2.heap.size w3 W → W.cell? ⟨w.heap.size, 0, none⟩ = some (.slice A1 t.low.length c1) ∧ W.cell? ⟨w.heap.size, 1, none⟩ = some (.slice A2 t.up.length c2) ∧ W.cell? ⟨w.heap.size, 2, none⟩ = some (.slice A3 t.pair.length c3)) := Lib.hid fun W hW => by
    have := hT3.below hW hqp
    exact ⟨this.cell 0, this.cell 1, this.cell 2⟩
  have HWW : Hid (∀ W, Below w2.heap.size w3 W → Below w.heap.size w W) := Lib.hid fun W hW => hb3.trans (hW.mono (by omega))
  have y0 := (HTQ.out w3 (Below.refl _ _)).1
  rw [← Hw3.out] at y0
  clear hb2 hbx hkx hw3 hs3 hb3 hT3
  go_upto_region 7 with fail
  rw [Hw3.out]
  clear y0
  go_wp2_with fail
  go_loopg [20] t.low.length (fun gh s20 wr => ∃ (i : Nat) (v : Value), i ≤ t.low.length ∧ gh = t.low.length - i ∧ s20 = .int .i64 (i : Nat) ∧ OutM wr w2.heap.size (w2.heap.size + 1) v ((List.range i).flatMap (rowE t t.low.length)) ∧ Below w2.heap.size w3 wr)
  case atStart => exact ⟨0, _, Nat.zero_le _, rfl, rfl, Hout3.out, Below.refl _ _⟩
  case round =>
    obtain ⟨i, v, hi, rfl, rfl, hout, hbel⟩ := hrel
    obtain ⟨wO, hwO⟩ : ∃ a, a = wr := ⟨_, rfl⟩
    subst hwO
    have Hout := Lib.hid hout
    have Hbel := Lib.hid hbel
    clear hout hbel
    by_cases hin : i < t.low.length
    · have d0 : decide (i < t.low.length) = true := by simpa using hin
      have i1 : (0 : Int) ≤ (i : Int) := by omega
      have i2 : (i : Int) < t.low.length := by omega
      have hl0 : ((List.range i).flatMap (rowE t t.low.length)).length ≤ 100 := Nat.le_trans (flatMap_len (fun j => rowE_len t t.low.length j) i) (by have : i * (t.low.length + 2) ≤ 6 * 8 := Nat.mul_le_mul (by omega) (by omega); omega)
      have hpO : w2.heap.size + 1 ≤ wO.heap.size := by have := Hbel.out.size; have := Hs3.out; omega
      -- the three parts of the table at i
      obtain ⟨bA, oA, rfl, hbA, hcA⟩ := Hq1.out.at_ (by omega)
      have q1 := hcA i hin
      rw [← getD_at hin] at q1
      have hinu : i < t.up.length := by rw [Hul.out]; exact hin
      obtain ⟨bB, oB, rfl, hbB, hcB⟩ := Hq2.out.at_ (by omega)
      have q2 := hcB i hinu
      rw [← getD_at hinu] at q2
      have hinp : i < t.pair.length := by rw [Hpl.out]; exact hin
      obtain ⟨bC, oC, rfl, hbC, hcC⟩ := Hq3.out.2.2.2 (by omega)
      obtain ⟨AR, cR, q3, hqR⟩ := hcC i hinp
      have hrow : t.pair[i].length = t.low.length := (HOk.out.np _ (List.getElem_mem hinp)).1
      have hpe : ∀ k, pairE t i k = t.pair[i].getD k 0 := fun k => by
        unfold pairE
        rw [List.getD_eq_getElem?_getD (l := t.pair), List.getElem?_eq_getElem hinp]
        rfl
      obtain ⟨row, hrw⟩ : ∃ r, t.pair[i] = r := ⟨_, rfl⟩
      rw [hrw] at q3 hqR hrow hpe
      obtain ⟨lc, hlc⟩ : ∃ c, t.low.getD i 0 = c := ⟨_, rfl⟩
      obtain ⟨uc, huc⟩ : ∃ c, t.up.getD i 0 = c := ⟨_, rfl⟩
      have hr1 := Hrng.out.low i hin
      have hr2 := Hrng.out.up i hin
      have hr3 : ∀ k, k < t.low.length → 1 ≤ row.getD k 0 ∧ row.getD k 0 ≤ 3 := fun k hk => by rw [← hpe k]; exact Hrng.out.pair i k hin hk
      rw [hlc] at q1 hr1
      rw [huc] at q2 hr2
      have HC : Hid (∀ W, Below w2.heap.size w3 W → W.cell? ⟨bA, oA + i, none⟩ = some (.int .u8 lc) ∧ W.cell? ⟨bB, oB + i, none⟩ = some (.int .u8 uc) ∧ W.cell? ⟨bC, oC + i, none⟩ = some (.slice AR row.length cR)) := Lib.hid fun W hW =>
        ⟨((HWW.out W hW).cell (p := ⟨bA, oA + i, none⟩) hbA).trans q1, ((HWW.out W hW).cell (p := ⟨bB, oB + i, none⟩) hbB).trans q2, ((HWW.out W hW).cell (p := ⟨bC, oC + i, none⟩) hbC).trans q3⟩
      have HqR := Lib.hid hqR
      have Hrow := Lib.hid hrow
      have Hpe := Lib.hid hpe
      have Hr3 := Lib.hid hr3
      have Hrow2 : Hid (rowE t t.low.length i = lowQ i lc ++ upQ i uc ++ (List.range t.low.length).flatMap fun k => pairQ i k (row.getD k 0)) := Lib.hid (by unfold rowE; rw [hlc, huc]; congr 1; refine congrArg (fun f => List.flatMap f _) (funext fun k => ?_); rw [hpe k])
      have i3 : (i : Int) < t.up.length := by omega
      have i4 : (i : Int) < t.pair.length := by omega
      have hi1000 : i < 1000 := by omega
      clear hcA hcB hcC q1 q2 q3 hrw hlc huc hrow hpe hr3 hqR
      -- the variable's own term
      have hba := below_box (w := wO) (Obj.cells #[.int .i64 (i : Nat)] 3)
      have hka := (blk_new wO #[.int .i64 (i : Nat)] 3).alloc (Obj.cells #[.bool false, .int .u8 1, .slice (some ⟨wO.heap.size, 0, none⟩) 1 1] 99)
      have hsa : (wO.alloc (Obj.cells #[.int .i64 (i : Nat)] 3)).heap.size = wO.heap.size + 1 := by simp
      have hkb := blk_new (wO.alloc (Obj.cells #[.int .i64 (i : Nat)] 3)) #[.bool false, .int .u8 1, .slice (some ⟨wO.heap.size, 0, none⟩) 1 1] 99
      have hbb := hba.trans ((below_box (w := wO.alloc (Obj.cells #[.int .i64 (i : Nat)] 3)) (Obj.cells #[.bool false, .int .u8 1, .slice (some ⟨wO.heap.size, 0, none⟩) 1 1] 99)).mono hba.size)
      rw [hsa] at hkb
      obtain ⟨w4, hw4⟩ : ∃ x, (wO.alloc (Obj.cells #[.int .i64 (i : Nat)] 3)).alloc (Obj.cells #[.bool false, .int .u8 1, .slice (some ⟨wO.heap.size, 0, none⟩) 1 1] 99) = x := ⟨_, rfl⟩
      rw [hw4] at hka hkb hbb
      have Hw4 := Lib.hid hw4
      have hR4 : RndM w3 w2.heap.size wO.heap.size (wO.heap.size + 1) i w4 v ((List.range i).flatMap (rowE t t.low.length)) :=
        ⟨Hout.out.fresh hbb, hka, hkb, fun e => by have := (ownsRow_lt Hout.out.2.2 e).2; omega, fun e => by have := (ownsRow_lt Hout.out.2.2 e).2; omega, Hbel.out.trans (hbb.mono (by omega)), by have := hbb.size; omega⟩
      have HR4 := Lib.hid hR4
      have p1 : w2.heap.size < wO.heap.size := by omega
      have p2 : w2.heap.size < wO.heap.size + 1 := by omega
      clear hba hka hsa hkb hbb hw4 hR4 Hout Hbel
      go_upto_region 10 with fail
      rw [Hw4.out]
      have x0 := (HTQ.out w4 HR4.out.bel).1
      have y0 := (HC.out w4 HR4.out.bel).1
      go_wp2_with fail
      refine (put5_any _ ⟨false, lc, []⟩ 1 i 0 w2.heap.size (w2.heap.size + 1) v _ w4 ⟨none, 0, 0, rfl, RdI.nil⟩ (fitsB_low hr1 hi1000) (by simp) HR4.out.out (Nat.lt_succ_self _) HR4.out.sz (by omega) (by rw [fits_low hr1.1]; have := lowQ_len i lc; omega)).mono ?_
      rintro e w5 ⟨rfl, v5, hout5, hg5⟩
      rw [fits_low hr1.1] at hout5
      have HR5 := Lib.hid (HR4.out.put p1 p2 hout5 hg5)
      have hl5 : ((List.range i).flatMap (rowE t t.low.length) ++ lowQ i lc).length ≤ 101 := by rw [List.length_append]; have := lowQ_len i lc; omega
      clear hout5 hg5 x0 y0 HR4 Hw4
      go_upto_region 11 with fail
      have hKS : ∀ W v xs, RndM w3 w2.heap.size wO.heap.size (wO.heap.size + 1) i W v xs → W.cell? ⟨wO.heap.size + 1, 0, none⟩ = some (.bool false) ∧ W.cell? ⟨wO.heap.size + 1, 1, none⟩ = some (.int .u8 1) ∧ W.cell? ⟨wO.heap.size + 1, 2, none⟩ = some (.slice (some ⟨wO.heap.size, 0, none⟩) 1 1) ∧ W.cell? ⟨w.heap.size, 1, none⟩ = some (.slice (some ⟨bB, oB, none⟩) t.up.length c2) ∧ W.cell? ⟨bB, oB + i, none⟩ = some (.int .u8 uc) := fun W v xs hW =>
        ⟨hW.k2.cell 0, hW.k2.cell 1, hW.k2.cell 2, (HTQ.out W hW.bel).2.1, (HC.out W hW.bel).2.1⟩
      have HKS := Lib.hid hKS
      clear hKS
      refine wp_region_noPanic ?_
      refine wp_region_T (fun W => W.cell? ⟨wO.heap.size + 1, 0, none⟩ = some (.bool false) ∧ W.cell? ⟨wO.heap.size + 1, 1, none⟩ = some (.int .u8 1) ∧ W.cell? ⟨wO.heap.size + 1, 2, none⟩ = some (.slice (some ⟨wO.heap.size, 0, none⟩) 1 1) ∧ W.cell? ⟨w.heap.size, 1, none⟩ = some (.slice (some ⟨bB, oB, none⟩) t.up.length c2) ∧ W.cell? ⟨bB, oB + i, none⟩ = some (.int .u8 uc)) 9 (by kernel_rfl) (HKS.out _ _ _ HR5.out.drew) (fun hHeld => ?_)
      have hRD := HR5.out.drew
      generalize w5.drew = W0 at hHeld hRD ⊢
      clear HR5
      refine wpAnyT_take (i := 0) (v := ?_) rfl (by kernel_rfl) (by kernel_rfl) (by kernel_rfl) (by kernel_rfl) (fun _ _ _ h => h) (Or.inl ⟨by rfl, ?_⟩) (by assumption) ?_
      rotate_left
      · (intro w hSw; (try dsimp only at hSw); first | (go_simp; done) | (go_simp; with_reducible rfl))
      try simp only [Act.put, List.getElem_toArray, List.getElem_cons_zero, List.getElem_cons_succ, List.setIfInBounds_toArray, List.set_cons_zero, List.set_cons_succ]
      refine wpAnyT_take (i := 1) (v := ?_) rfl (by kernel_rfl) (by kernel_rfl) (by kernel_rfl) (by kernel_rfl) (fun _ _ _ h => h) (Or.inl ⟨by rfl, ?_⟩) (by assumption) ?_
      rotate_left
      · (intro w hSw; (try dsimp only at hSw); first | (go_simp; done) | (go_simp; with_reducible rfl))
      try simp only [Act.put, List.getElem_toArray, List.getElem_cons_zero, List.getElem_cons_succ, List.setIfInBounds_toArray, List.set_cons_zero, List.set_cons_succ]
      refine wpAnyT_take (i := 2) (v := ?_) rfl (by kernel_rfl) (by kernel_rfl) (by kernel_rfl) (by kernel_rfl) (fun _ _ _ h => h) (Or.inl ⟨by rfl, ?_⟩) (by assumption) ?_
      rotate_left
      · (intro w hSw; (try dsimp only at hSw); first | (go_simp; done) | (go_simp; with_reducible rfl))
      try simp only [Act.put, List.getElem_toArray, List.getElem_cons_zero, List.getElem_cons_succ, List.setIfInBounds_toArray, List.set_cons_zero, List.set_cons_succ]
      refine wpAnyT_take (i := 3) (v := ?_) rfl (by kernel_rfl) (by kernel_rfl) (by kernel_rfl) (by kernel_rfl) (fun _ _ _ h => h) (Or.inl ⟨by rfl, ?_⟩) (by assumption) ?_
      rotate_left
      · (intro w hSw; (try dsimp only at hSw); first | (go_simp; done) | (go_simp; with_reducible rfl))
      try simp only [Act.put, List.getElem_toArray, List.getElem_cons_zero, List.getElem_cons_succ, List.setIfInBounds_toArray, List.set_cons_zero, List.set_cons_succ]
      refine wpAnyT_take (i := 4) (v := ?_) rfl (by kernel_rfl) (by kernel_rfl) (by kernel_rfl) (by kernel_rfl) (fun _ _ _ h => h) (Or.inl ⟨by rfl, ?_⟩) (by assumption) ?_
      rotate_left
      · (intro w hSw; (try dsimp only at hSw); first | (go_simp; done) | (go_simp; with_reducible rfl))
      try simp only [Act.put, List.getElem_toArray, List.getElem_cons_zero, List.getElem_cons_succ, List.setIfInBounds_toArray, List.set_cons_zero, List.set_cons_succ]
      refine wpAnyT_take (i := 5) (v := ?_) rfl (by kernel_rfl) (by kernel_rfl) (by kernel_rfl) (by kernel_rfl) (fun _ _ _ h => h) (Or.inl ⟨by rfl, ?_⟩) (by assumption) ?_
      rotate_left
      · (intro w hSw; (try dsimp only at hSw); first | (go_simp; done) | (go_simp; with_reducible rfl))
      try simp only [Act.put, List.getElem_toArray, List.getElem_cons_zero, List.getElem_cons_succ, List.setIfInBounds_toArray, List.set_cons_zero, List.set_cons_succ]
      refine wpAnyT_take (i := 6) (v := ?_) rfl (by kernel_rfl) (by kernel_rfl) (by kernel_rfl) (by kernel_rfl) (fun _ _ _ h => h) (Or.inl ⟨by rfl, ?_⟩) (by assumption) ?_
      rotate_left
      · (intro w hSw; (try dsimp only at hSw); first | (go_simp; done) | (go_simp; with_reducible rfl))
      try simp only [Act.put, List.getElem_toArray, List.getElem_cons_zero, List.getElem_cons_succ, List.setIfInBounds_toArray, List.set_cons_zero, List.set_cons_succ]
      refine wpAnyT_take (i := 7) (v := ?_) rfl (by kernel_rfl) (by kernel_rfl) (by kernel_rfl) (by kernel_rfl) (fun _ _ _ h => h) (Or.inl ⟨by rfl, ?_⟩) (by assumption) ?_
      rotate_left
      · (intro w hSw; (try dsimp only at hSw); first | (go_simp; done) | (go_simp; with_reducible rfl))
      try simp only [Act.put, List.getElem_toArray, List.getElem_cons_zero, List.getElem_cons_succ, List.setIfInBounds_toArray, List.set_cons_zero, List.set_cons_succ]
      clear hHeld
      refine wpAnyT_step (i := 8) (by kernel_rfl) rfl (fun K hK => ?_)
      (go_simp; refine (put5_any _ ⟨false, 1, [(i : Int)]⟩ 1 0 uc w2.heap.size (w2.heap.size + 1) v5 _ W0 (self_termV hRD.k1) (fitsB_up hr2 hi1000) (by simp) hRD.out (Nat.lt_succ_self _) hRD.sz (by omega) (by rw [fits_up hr2]; have := upQ_len i uc; omega)).mono ?_; rintro e w6 ⟨rfl, v6, hout6, hg6⟩; rw [fits_up hr2] at hout6; have hR6 := hRD.put p1 p2 hout6 hg6)
      refine hK.out _ _ (HKS.out _ _ _ hR6) ?_
      clear hK K
      try simp only [Act.put, List.getElem_toArray, List.getElem_cons_zero, List.getElem_cons_succ, List.setIfInBounds_toArray, List.set_cons_zero, List.set_cons_succ]
      have HR6 := Lib.hid hR6
      have hl6 : ((List.range i).flatMap (rowE t t.low.length) ++ lowQ i lc ++ upQ i uc).length ≤ 102 := by rw [List.length_append]; have := upQ_len i uc; omega
      clear hRD hout6 hg6 hR6
      refine wpAnyT_seq 9 (by omega) (by rfl) (by kernel_rfl) ?_
      simp only [List.drop_succ_cons, List.drop_zero]
      go_wp2_with fail
      refine NoPanic.normal ?_
      have x0 := (HTQ.out w6 HR6.out.bel).2.2
      have y0 := (HC.out w6 HR6.out.bel).2.2
      have r63 : row.length ≤ 9223372036854775807 := by have := Hrow.out; omega
      go_wp2_with fail
      clear x0 y0
      go_loopg [51] row.length (fun gh s51 wr => ∃ (k : Nat) (v : Value), k ≤ row.length ∧ gh = row.length - k ∧ s51 = .int .i64 (k : Nat) ∧ RndM w3 w2.heap.size wO.heap.size (wO.heap.size + 1) i wr v ((List.range i).flatMap (rowE t t.low.length) ++ lowQ i lc ++ upQ i uc ++ (List.range k).flatMap fun k => pairQ i k (row.getD k 0)))
      case atStart => exact ⟨0, v6, Nat.zero_le _, rfl, rfl, by simpa using HR6.out⟩
      case round =>
        obtain ⟨k, v7, hk, rfl, rfl, hR7⟩ := hrel
        have HR7 := Lib.hid hR7
        clear hR7
        by_cases hkn : k < row.length
        · have d1 : decide (k < row.length) = true := by simpa using hkn
          have hkl : k < t.low.length := by have := Hrow.out; omega
          obtain ⟨bR, oR, rfl, hbR, hcR⟩ := HqR.out.at_ (by omega)
          have q4 := hcR k hkn
          rw [← getD_at hkn] at q4
          have hr4 := Hr3.out k hkl
          have e0 : wr.cell? ⟨bR, oR + k, none⟩ = some (.int .u8 (row.getD k 0)) := ((HWW.out wr HR7.out.bel).cell (p := ⟨bR, oR + k, none⟩) hbR).trans q4
          have hfs : (List.range (k + 1)).flatMap (fun k => pairQ i k (row.getD k 0)) = (List.range k).flatMap (fun k => pairQ i k (row.getD k 0)) ++ pairQ i k (row.getD k 0) := flat_succ _ k
          have Hfs := Lib.hid hfs
          obtain ⟨cv, hcv⟩ : ∃ c, row.getD k 0 = c := ⟨_, rfl⟩
          rw [hcv] at e0 hr4
          have Hcv := Lib.hid hcv
          have k1 : (0 : Int) ≤ (k : Int) := by omega
          have k2 : (k : Int) < row.length := by omega
          have z0 := HR7.out.k2.cell 0
          have z1 := HR7.out.k2.cell 1
          have z2 := HR7.out.k2.cell 2
          simp only [List.getElem?_toArray, List.getElem?_cons_zero, List.getElem?_cons_succ] at z0 z1 z2
          have hlk : ((List.range i).flatMap (rowE t t.low.length) ++ lowQ i lc ++ upQ i uc ++ (List.range k).flatMap fun k => pairQ i k (row.getD k 0)).length ≤ 1000 := by
            rw [List.length_append]
            have := flatMap_len (f := fun k => pairQ i k (row.getD k 0)) (m := 1) (fun k => pairQ_len i k _) k
            omega
          have Hlk := Lib.hid hlk
          have hk1000 : k < 1000 := by omega
          clear hcR q4 hfs hcv hlk
          go_wp2_with fail
          refine (put5_any _ ⟨false, 1, [(i : Int)]⟩ cv k 0 w2.heap.size (w2.heap.size + 1) v7 _ wr (self_termV HR7.out.k1) (fitsB_pair hr4 hi1000 hk1000) (by simp) HR7.out.out (Nat.lt_succ_self _) HR7.out.sz (by have := Hlk.out; omega) (by rw [fits_pair hr4]; have := pairQ_len i k cv; omega)).mono ?_
          rintro e w8 ⟨rfl, v8, hout8, hg8⟩
          rw [fits_pair hr4] at hout8
          have HR8 := Lib.hid (HR7.out.put p1 p2 hout8 hg8)
          clear hout8 hg8 e0 z0 z1 z2
          go_wp2_with fail
          go_roundg (row.length - (k + 1))
          case measure => omega
          case rel => exact ⟨k + 1, v8, by omega, rfl, by simp, by rw [Hfs.out, Hcv.out, ← List.append_assoc]; exact HR8.out⟩
        · have d1 : decide (k < row.length) = false := by simpa using hkn
          have hkl : k = t.low.length := by have := Hrow.out; omega
          have hfin : OutM wr w2.heap.size (w2.heap.size + 1) v7 ((List.range (i + 1)).flatMap (rowE t t.low.length)) := by
            have := HR7.out.out
            rw [hkl] at this
            rw [flat_succ, Hrow2.out, ← List.append_assoc, ← List.append_assoc]
            exact this
          have Hfin := Lib.hid hfin
          clear hfin hkl
          go_wp2_with fail
          go_roundg (t.low.length - (i + 1))
          case measure => omega
          case rel => exact ⟨i + 1, v7, by omega, rfl, by simp, Hfin.out, HR7.out.bel⟩
    · have d0 : decide (i < t.low.length) = false := by simpa using hin
      have hie : i = t.low.length := by omega
      have hend : OutM wO w2.heap.size (w2.heap.size + 1) v (ownE t t.low.length) := by
        have := Hout.out
        rw [hie] at this
        exact this
      obtain ⟨⟨A, c, rfl⟩, hk, how⟩ := hend
      have y0 : wO.cell? ⟨w2.heap.size, 0, none⟩ = some (.slice A (ownE t t.low.length).length c) := hk.cell 0
      have Hret := Lib.hid (IneqsV.of_own4 how)
      have Hend := Lib.hid (HWW.out wO Hbel.out)
      clear hie hk how
      go_wp2_with fail
      exact bodyPost_ret (v := .tuple #[.slice A (ownE t t.low.length).length c, .int .i64 0]) (by simp [results, Try.results38, go_sem]) rfl ⟨A, c, rfl, Hret.out, Hend.out⟩
end Go.Proofs.Ythabkpkgocafoaa

/- The closure of ElimExact that tells what is no multiplicity, and ContainsFunc with it. -/
namespace Go.Proofs.Ythabkpkgocafoaa
set_option linter.unusedVariables false
set_option linter.unusedSimpArgs false
open Go.RowKit

set_option maxRecDepth 100000 in
theorem notX_any (m : Int) (w : World) : Calls Try.prog 35 #[.int .u8 m] w fun e w' => e = .returned (.bool (notM m)) ∧ w = w' := by
  have H : ∀ b, notM m = b → Hid (b = notM m) := fun b h => Lib.hid h.symm
  by_cases h1 : m < 1
  · have d1 : decide (m < 1) = true := by simpa using h1
    have HF := H true (by simp [notM, h1])
    go_enter Try.func35, Try.ntmps35
    go_wp2_with fail
    go_ret
    exact ⟨by rw [← HF.out]; rfl, rfl⟩
  · have d1 : decide (m < 1) = false := by simpa using h1
    obtain ⟨b, hb⟩ : ∃ b, decide (m > 3) = b := ⟨_, rfl⟩
    have HF := H b (by simp only [notM, d1, hb, Bool.false_or])
    go_enter Try.func35, Try.ntmps35
    go_wp2_with fail
    go_ret
    exact ⟨by rw [← HF.out]; rfl, rfl⟩
set_option maxRecDepth 100000 in
set_option maxHeartbeats 1000000 in
theorem indexMX (p : Int → Bool) (qq : Nat) (A : Option Addr) (n c : Nat) (us : List Int) (w : World) (B : Nat) (h : RdI .u8 w B A n c us)
    (he : ∀ x ∈ us, Calls Try.prog 35 (#[.int .u8 x] ++ #[]) w fun e w' => e = .returned (.bool (p x)) ∧ w = w') :
    Calls Try.prog 57 #[.slice A n c, .func (.func 35) #[] #[]] w fun e w' => e = .returned (.int .i64 (findM p us)) ∧ w = w' := by
  have hlen := h.len
  have m63 : n ≤ 9223372036854775807 := Nat.le_trans h.2.1 h.2.2
  have H := Lib.hid h
  have He := Lib.hid he
  clear h he
  go_enter Try.func57, Try.ntmps57
  go_wp2_with fail
  go_loopg [5, 8] n (fun gh _ i wr => ∃ k : Nat, k ≤ n ∧ gh = n - k ∧ i = .int .i64 k ∧ wr = w ∧ ∀ j (h : j < us.length), j < k → p us[j] = false)
  case atStart => exact ⟨0, Nat.zero_le _, rfl, rfl, rfl, fun j _ hj => absurd hj (by omega)⟩
  case round =>
    obtain ⟨k, hk, rfl, rfl, rfl, hb⟩ := hrel
    by_cases hkm : k < n
    · have d0 : decide (k < n) = true := by simpa using hkm
      have hk' : k < us.length := by omega
      obtain ⟨b, off, rfl, _, hc⟩ := H.out.at_ (by omega)
      have e0 := hc k hk'
      have Hb := Lib.hid hb
      have hq := He.out us[k] (List.getElem_mem hk')
      obtain ⟨P, hP⟩ : ∃ P, p us[k] = P := ⟨_, rfl⟩
      rw [hP] at hq
      have HP := Lib.hid hP
      have k1 : (0 : Int) ≤ (k : Int) := by omega
      have k2 : (k : Int) < n := by omega
      clear hc hb hP
      obtain ⟨y, hy⟩ : ∃ y, us[k] = y := ⟨_, rfl⟩
      rw [hy] at e0 hq
      have Hq := Lib.hid hq
      clear hy hq
      cases P with
      | true =>
        have HR : Hid ((k : Int) = findM p us) := Lib.hid (findM_at hk' Hb.out HP.out).symm
        go_wp2_with fail
        refine Hq.out.mono ?_; rintro e w1 ⟨rfl, rfl⟩
        go_wp2_with fail
        go_ret
        exact ⟨ret_int HR.out, rfl⟩
      | false =>
        have Hn : Hid (∀ j (h : j < us.length), j < k + 1 → p us[j] = false) := Lib.hid fun j hj hjk => by
          rcases Nat.lt_or_ge j k with h | h
          · exact Hb.out j hj h
          · obtain rfl : j = k := by omega
            exact HP.out
        go_wp2_with fail
        refine Hq.out.mono ?_; rintro e w1 ⟨rfl, rfl⟩
        go_wp2_with fail
        go_roundg (n - (k + 1))
        case measure => omega
        case rel => exact ⟨k + 1, by omega, rfl, by go_num, rfl, Hn.out⟩
    · have d0 : decide (k < n) = false := by simpa using hkm
      have HR : Hid ((-1 : Int) = findM p us) := Lib.hid (findM_none fun j hj => hb j hj (by omega)).symm
      clear hb
      go_wp2_with fail
      go_ret
      exact ⟨ret_int HR.out, rfl⟩
set_option maxRecDepth 100000 in
theorem containsMX (p : Int → Bool) (qq : Nat) (A : Option Addr) (n c : Nat) (us : List Int) (w : World) (B : Nat) (h : RdI .u8 w B A n c us)
    (he : ∀ x ∈ us, Calls Try.prog 35 (#[.int .u8 x] ++ #[]) w fun e w' => e = .returned (.bool (p x)) ∧ w = w') (r : Bool) (hr : us.any p = r) :
    Calls Try.prog 34 #[.slice A n c, .func (.func 35) #[] #[]] w fun e w' => e = .returned (.bool r) ∧ w = w' := by
  have hq := indexMX p 0 A n c us w B h he
  have hd := findM_any p us
  rw [hr] at hd
  obtain ⟨i, hi⟩ : ∃ i, findM p us = i := ⟨_, rfl⟩
  rw [hi] at hq hd
  have Hq := Lib.hid hq
  clear hq hr hi h he
  go_enter Try.func34, Try.ntmps34
  go_wp2_with fail
  refine Hq.out.mono ?_; rintro e w1 ⟨rfl, rfl⟩
  have Hd : Hid (decide (i ≥ 0) = r) := Lib.hid hd
  clear hd
  go_wp2_with fail
  go_ret
  exact ⟨ret_bool Hd.out, rfl⟩
theorem noneX_any {us : List Int} {r : Bool} (hr : noneB us = r) (A : Option Addr) (n c : Nat) (w : World) (B : Nat) (h : RdI .u8 w B A n c us) :
    Calls Try.prog 34 #[.slice A n c, .func (.func 35) #[] #[]] w fun e w' => e = .returned (.bool r) ∧ w = w' :=
  containsMX notM 0 A n c us w B h (fun x _ => by simpa using notX_any x w) r hr
end Go.Proofs.Ythabkpkgocafoaa

