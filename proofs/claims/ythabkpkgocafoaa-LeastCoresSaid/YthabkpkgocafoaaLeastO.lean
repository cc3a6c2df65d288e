/- The solver's queue: what put does to the whole state. -/
import Derived.Test.YthabkpkgocafoaaLeastN
namespace Go.Proofs.Ythabkpkgocafoaa
set_option linter.unusedVariables false
set_option linter.unusedSimpArgs false
open Go.RowKit Go.Conc

theorem nodup_len : ∀ (l1 l2 : List Int), l1.Nodup → (∀ z ∈ l1, z ∈ l2) → l1.length ≤ l2.length
  | [], _, _, _ => Nat.zero_le _
  | a :: t, l2, hn, hs => by
    have h1 : a ∈ l2 := hs a List.mem_cons_self
    obtain ⟨ha, ht⟩ := List.nodup_cons.1 hn
    have h2 := nodup_len t (l2.erase a) ht (fun z hz => (List.mem_erase_of_ne (fun e : z = a => ha (by rw [← e]; exact hz))).2 (hs z (List.mem_cons_of_mem _ hz)))
    rw [List.length_erase_of_mem h1] at h2
    have := List.length_pos_of_mem h1
    simp only [List.length_cons]
    omega

/-- the queue and its flags -/
structure QInv (n : Nat) (flags : List Bool) (q : List Int) : Prop where
  len : flags.length = n
  nd : q.Nodup
  iff : ∀ u, u < n → (flags.getD u false = true ↔ (u : Int) ∈ q)
  rng : ∀ z ∈ q, ∃ u : Nat, u < n ∧ z = (u : Int)

theorem QInv.room {n : Nat} {flags : List Bool} {q : List Int} (h : QInv n flags q) {v : Nat} (hv : v < n) (hf : flags.getD v false = false) : q.length < n := by
  have h1 : ((v : Int) :: q).Nodup := List.nodup_cons.2 ⟨fun hm => (by have := (h.iff v hv).2 hm; rw [hf] at this; cases this), h.nd⟩
  have h2 := nodup_len _ ((List.range n).map (fun u : Nat => (u : Int))) h1 (fun z hz => by
    rcases List.mem_cons.1 hz with he | hz
    · rw [he]; exact List.mem_map.2 ⟨v, List.mem_range.2 hv, rfl⟩
    · obtain ⟨u, hu, rfl⟩ := h.rng z hz
      exact List.mem_map.2 ⟨u, List.mem_range.2 hu, rfl⟩)
  simp at h2
  omega

theorem getDb_set (l : List Bool) (i j : Nat) (a : Bool) (hi : i < l.length) : (l.set i a).getD j false = if i = j then a else l.getD j false := by
  simp only [List.getD, List.getElem?_set]
  by_cases e : i = j
  · subst e; simp [hi]
  · simp [e]

theorem QInv.put {n : Nat} {flags : List Bool} {q : List Int} (h : QInv n flags q) {v : Nat} (hv : v < n) (hf : flags.getD v false = false) : QInv n (flags.set v true) (q ++ [(v : Int)]) := by
  have hvl : v < flags.length := by rw [h.len]; exact hv
  refine ⟨by simpa using h.len, ?_, fun u hu => ?_, fun z hz => ?_⟩
  · refine List.nodup_append.2 ⟨h.nd, by simp, fun a ha b hb => ?_⟩
    simp only [List.mem_singleton] at hb
    subst hb
    intro e
    subst e
    have := (h.iff v hv).2 ha
    rw [hf] at this
    cases this
  · rw [getDb_set _ _ _ _ hvl]
    by_cases e : v = u
    · subst e; simp
    · rw [if_neg e, h.iff u hu, List.mem_append]
      constructor
      · exact fun q => Or.inl q
      · rintro (q | q)
        · exact q
        · simp only [List.mem_singleton] at q; omega
  · rcases List.mem_append.1 hz with q | q
    · exact h.rng z q
    · simp only [List.mem_singleton] at q
      exact ⟨v, hv, q⟩

/-- the first is taken out -/
theorem QInv.take {n : Nat} {flags : List Bool} {q : List Int} {z : Int} (h : QInv n flags (z :: q)) : ∃ v : Nat, v < n ∧ z = (v : Int) ∧ QInv n (flags.set v false) q := by
  obtain ⟨v, hv, rfl⟩ := h.rng z List.mem_cons_self
  have hvl : v < flags.length := by rw [h.len]; exact hv
  obtain ⟨hz, hn⟩ := List.nodup_cons.1 h.nd
  refine ⟨v, hv, rfl, by simpa using h.len, hn, fun u hu => ?_, fun z hz => h.rng z (List.mem_cons_of_mem _ hz)⟩
  rw [getDb_set _ _ _ _ hvl]
  by_cases e : v = u
  · subst e
    rw [if_pos rfl]
    exact ⟨fun q => Bool.noConfusion q, fun q => absurd q hz⟩
  · rw [if_neg e, h.iff u hu, List.mem_cons]
    constructor
    · rintro (q | q)
      · omega
      · exact q
    · exact fun q => Or.inr q

section
variable {p : Place} {w0 w w' : World} {xs : List IneqD} {low is why : List Int} {vs : List Value} {fr : Nat → List Int} {flags : List Bool} {q : List Int}
theorem put_run (h : RunSt p w0 w xs low is why vs fr flags q) (hq : QInv p.n flags q) {v : Nat} (hv : v < p.n) :
    Calls Try.prog 64 #[.int .i64 v, .pointer (some ⟨p.gw, 0, none⟩), .pointer (some ⟨p.gt, 0, none⟩)] w fun e w' => e = .returned (.tuple #[]) ∧ ∃ flags' q', RunSt p w0 w' xs low is why vs fr flags' q' ∧ QInv p.n flags' q' ∧ (∀ u, flags'.getD u false = true ↔ flags.getD u false = true ∨ u = v) ∧ q'.length ≤ q.length + 1 := by
  cases hf : flags.getD v false with
  | true =>
    refine (putQ_yes v p.gw p.W p.gt p.C p.n flags q w h.qs hv hf h.ok.n20).mono ?_
    rintro e w' ⟨rfl, rfl⟩
    refine ⟨rfl, flags, q, h, hq, fun u => ⟨Or.inl, ?_⟩, Nat.le_succ _⟩
    rintro (e | rfl)
    · exact e
    · exact hf
  | false =>
    refine (putQ_no v p.gw p.W p.gt p.C p.n flags q w h.qs hv hf h.ok.n20 (hq.room hv hf)).mono ?_
    rintro e w' ⟨rfl, hs, ho⟩
    refine ⟨rfl, _, _, h.queued ho hs, hq.put hv hf, fun u => ?_, by simp⟩
    rw [getDb_set _ _ _ _ (by rw [hq.len]; exact hv)]
    by_cases e : v = u
    · subst e; simp
    · rw [if_neg e]
      constructor
      · exact Or.inl
      · rintro (q | q)
        · exact q
        · exact absurd q.symm e
end

end Go.Proofs.Ythabkpkgocafoaa
