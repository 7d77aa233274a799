/- Of three masks it does not matter which two are taken first. -/
import Derived.Test.YtficidiahlmimaaDoorS3
namespace Go.Proofs.YtficidiahlmimaaDoor.Pure
open Go.RowKit Go.Proofs.YtficidiahlmimaaDoorW.PrintWords Go.Proofs.YtficidiahlmimaaDoorW.PrintLast Go.Proofs.YtficidiahlmimaaDoorW.PrintMore Go.Proofs.YtficidiahlmimaaDoor.P Go.Proofs.YtficidiahlmimaaDoor.S

def orLeft (r t : Nat) (m : Nat) : Nat → Nat → Nat
  | 0, acc => acc
  | d + 1, acc => orLeft r t m d (if m.testBit d = true then acc ||| tab d t else acc)
def orRight (r m : Nat) : Nat → Nat → Nat
  | 0, acc => acc
  | d + 1, acc => orRight r m d (if m.testBit d = true then acc ||| tab r d else acc)
theorem orLeft_bit (r t m j : Nat) : ∀ d acc, (orLeft r t m d acc).testBit j = true ↔ acc.testBit j = true ∨ ∃ x, x < d ∧ m.testBit x = true ∧ (tab x t).testBit j = true
  | 0, acc => by simp [orLeft]
  | d + 1, acc => by
    unfold orLeft
    rw [orLeft_bit r t m j d]
    constructor
    · rintro (h | ⟨x, h1, h2, h3⟩)
      · by_cases hd : m.testBit d = true
        · rw [if_pos hd, Nat.testBit_or, Bool.or_eq_true] at h
          rcases h with h | h
          · exact .inl h
          · exact .inr ⟨d, by omega, hd, h⟩
        · rw [if_neg hd] at h
          exact .inl h
      · exact .inr ⟨x, by omega, h2, h3⟩
    · rintro (h | ⟨x, h1, h2, h3⟩)
      · refine .inl ?_
        split
        · rw [Nat.testBit_or, h]; rfl
        · exact h
      · by_cases hx : x = d
        · subst hx
          rw [if_pos h2, Nat.testBit_or, h3, Bool.or_true]
          exact .inl rfl
        · exact .inr ⟨x, by omega, h2, h3⟩
theorem orRight_bit (r m j : Nat) : ∀ d acc, (orRight r m d acc).testBit j = true ↔ acc.testBit j = true ∨ ∃ x, x < d ∧ m.testBit x = true ∧ (tab r x).testBit j = true
  | 0, acc => by simp [orRight]
  | d + 1, acc => by
    unfold orRight
    rw [orRight_bit r m j d]
    constructor
    · rintro (h | ⟨x, h1, h2, h3⟩)
      · by_cases hd : m.testBit d = true
        · rw [if_pos hd, Nat.testBit_or, Bool.or_eq_true] at h
          rcases h with h | h
          · exact .inl h
          · exact .inr ⟨d, by omega, hd, h⟩
        · rw [if_neg hd] at h
          exact .inl h
      · exact .inr ⟨x, by omega, h2, h3⟩
    · rintro (h | ⟨x, h1, h2, h3⟩)
      · refine .inl ?_
        split
        · rw [Nat.testBit_or, h]; rfl
        · exact h
      · by_cases hx : x = d
        · subst hx
          rw [if_pos h2, Nat.testBit_or, h3, Bool.or_true]
          exact .inl rfl
        · exact .inr ⟨x, by omega, h2, h3⟩
def threeOk (r : Nat) : Bool := (List.range 13).all fun s => (List.range 13).all fun t => decide (orLeft r t (tab r s) 13 0 = orRight r (tab s t) 13 0)
theorem three_all : ((List.range 13).all threeOk) = true := by decide +kernel
theorem three_at (r s t : Nat) (hr : r < 13) (hs : s < 13) (ht : t < 13) : orLeft r t (tab r s) 13 0 = orRight r (tab s t) 13 0 := by
  have h := three_all
  rw [List.all_eq_true] at h
  have h1 := h r (List.mem_range.2 hr)
  unfold threeOk at h1
  rw [List.all_eq_true] at h1
  have h2 := h1 s (List.mem_range.2 hs)
  rw [List.all_eq_true] at h2
  exact of_decide_eq_true (h2 t (List.mem_range.2 ht))
theorem both_three (u v x : Nat) : both (both u v) x = both u (both v x) := by
  refine Nat.eq_of_testBit_eq fun j => ?_
  rw [Bool.eq_iff_iff, both_bit, both_bit]
  constructor
  · rintro ⟨y, t, h1, h2, h3, h4, h5⟩
    obtain ⟨r, s, k1, k2, k3, k4, k5⟩ := (both_bit _ _ _).1 h3
    have := three_at r s t k1 k2 h2
    have hl : (orLeft r t (tab r s) 13 0).testBit j = true := (orLeft_bit _ _ _ _ _ _).2 (.inr ⟨y, h1, k5, h5⟩)
    rw [this] at hl
    rcases (orRight_bit _ _ _ _ _).1 hl with h | ⟨z, z1, z2, z3⟩
    · rw [Nat.zero_testBit] at h; cases h
    · exact ⟨r, z, k1, z1, k3, (both_bit _ _ _).2 ⟨s, t, k2, h2, k4, h4, z2⟩, z3⟩
  · rintro ⟨r, y, h1, h2, h3, h4, h5⟩
    obtain ⟨s, t, k1, k2, k3, k4, k5⟩ := (both_bit _ _ _).1 h4
    have := three_at r s t h1 k1 k2
    have hl : (orRight r (tab s t) 13 0).testBit j = true := (orRight_bit _ _ _ _ _).2 (.inr ⟨y, h2, k5, h5⟩)
    rw [← this] at hl
    rcases (orLeft_bit _ _ _ _ _ _).1 hl with h | ⟨z, z1, z2, z3⟩
    · rw [Nat.zero_testBit] at h; cases h
    · exact ⟨z, t, z1, k2, (both_bit _ _ _).2 ⟨r, s, h1, k1, h3, k3, z2⟩, k4, z3⟩
theorem ComposeThree (a b c : Int) (_ha : I64 a) (_hb : I64 b) (_hc : I64 c) : ∃ n, lustrumlaw19_ComposeThree.f n a b c = some true := by
  refine Ev.rounds (g := fun n => lustrumlaw19_ComposeThree.f n a b c) (Ev.bind (f := fun k t198 => _) awake_ev (Ev.yes rfl ?_))
  refine Ev.bind (f := fun k t => _) (both_ev a b) ?_
  refine Ev.bind (f := fun k t => _) (both_ev _ c) ?_
  refine Ev.bind (f := fun k t => _) (both_ev b c) ?_
  refine Ev.bind (f := fun _ t => _) (both_ev a _) ?_
  rw [nm_nat (both_lt _ _), nm_nat (both_lt _ _), both_three]
  simp only [beq_self_eq_true]
  exact Ev.now _
end Go.Proofs.YtficidiahlmimaaDoor.Pure
