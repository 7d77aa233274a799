/- The other way round it is the inverses, the other way round; equals changes nothing. -/
import Derived.Test.YtficidiahlmimaaDoorS3
namespace Go.Proofs.YtficidiahlmimaaDoor.Pure
open Go.RowKit Go.Proofs.YtficidiahlmimaaDoorW.PrintWords Go.Proofs.YtficidiahlmimaaDoorW.PrintLast Go.Proofs.YtficidiahlmimaaDoorW.PrintMore Go.Proofs.YtficidiahlmimaaDoor.P Go.Proofs.YtficidiahlmimaaDoor.S

def invOk (r : Nat) : Bool := (List.range 13).all fun s => (List.range 13).all fun j => ((tab r s).testBit j == (tab (12 - s) (12 - r)).testBit (12 - j))
theorem inv_all : ((List.range 13).all invOk) = true := by decide +kernel
theorem inv_at (r s j : Nat) (hr : r < 13) (hs : s < 13) (hj : j < 13) : (tab r s).testBit j = (tab (12 - s) (12 - r)).testBit (12 - j) := by
  have h := inv_all
  rw [List.all_eq_true] at h
  have h1 := h r (List.mem_range.2 hr)
  unfold invOk at h1
  rw [List.all_eq_true] at h1
  have h2 := h1 s (List.mem_range.2 hs)
  rw [List.all_eq_true] at h2
  simpa using h2 j (List.mem_range.2 hj)
theorem flip_both (u v : Nat) : flip (both u v) = both (flip v) (flip u) := by
  refine Nat.eq_of_testBit_eq fun j => ?_
  rw [Bool.eq_iff_iff, flip_bit, both_bit, both_bit]
  constructor
  · rintro ⟨hj, r, s, h1, h2, h3, h4, h5⟩
    refine ⟨12 - s, 12 - r, by omega, by omega, (flip_bit _ _).2 ⟨by omega, by rwa [show 12 - (12 - s) = s from by omega]⟩, (flip_bit _ _).2 ⟨by omega, by rwa [show 12 - (12 - r) = r from by omega]⟩, ?_⟩
    rw [inv_at r s (12 - j) h1 h2 (by omega), show 12 - (12 - j) = j from by omega] at h5
    exact h5
  · rintro ⟨r, s, h1, h2, h3, h4, h5⟩
    have k3 := ((flip_bit _ _).1 h3).2
    have k4 := ((flip_bit _ _).1 h4).2
    have hj : j < 13 := bit_lt (tab_lt r s (by omega) (by omega)) h5
    refine ⟨hj, 12 - s, 12 - r, by omega, by omega, k4, k3, ?_⟩
    rw [inv_at _ _ _ (by omega) (by omega) (by omega), show 12 - (12 - r) = r from by omega, show 12 - (12 - s) = s from by omega, show 12 - (12 - j) = j from by omega]
    exact h5
theorem eq_right : ∀ r, r < 13 → tab r 6 = 2 ^ r := by decide +kernel
theorem eq_left : ∀ r, r < 13 → tab 6 r = 2 ^ r := by decide +kernel
theorem bit64 : ∀ s, s < 13 → Nat.testBit 64 s = true → s = 6 := by decide +kernel
theorem both_eq (u : Nat) (hu : u < 8192) : both u 64 = u := by
  refine Nat.eq_of_testBit_eq fun j => ?_
  rw [Bool.eq_iff_iff, both_bit]
  constructor
  · rintro ⟨r, s, h1, h2, h3, h4, h5⟩
    obtain rfl := bit64 s h2 h4
    rw [eq_right r h1, Nat.testBit_two_pow] at h5
    obtain rfl : r = j := by simpa using h5
    exact h3
  · intro h
    have hj := bit_lt hu h
    exact ⟨j, 6, hj, by omega, h, by decide +kernel, by rw [eq_right j hj, Nat.testBit_two_pow]; simp⟩
theorem eq_both (u : Nat) (hu : u < 8192) : both 64 u = u := by
  refine Nat.eq_of_testBit_eq fun j => ?_
  rw [Bool.eq_iff_iff, both_bit]
  constructor
  · rintro ⟨s, r, h2, h1, h4, h3, h5⟩
    obtain rfl := bit64 s h2 h4
    rw [eq_left r h1, Nat.testBit_two_pow] at h5
    obtain rfl : r = j := by simpa using h5
    exact h3
  · intro h
    have hj := bit_lt hu h
    exact ⟨6, j, by omega, hj, by decide +kernel, h, by rw [eq_left j hj, Nat.testBit_two_pow]; simp⟩
theorem both_zero (u : Nat) : both u 0 = 0 := by
  refine Nat.eq_of_testBit_eq fun j => ?_
  rw [Bool.eq_iff_iff, both_bit]
  constructor
  · rintro ⟨r, s, h1, h2, h3, h4, h5⟩
    rw [Nat.zero_testBit] at h4; cases h4
  · intro h
    rw [Nat.zero_testBit] at h; cases h
theorem ComposeInverse (a b : Int) (_ha : I64 a) (_hb : I64 b) : ∃ n, lustrumlaw19_ComposeInverse.f n a b = some true := by
  refine Ev.rounds (g := fun n => lustrumlaw19_ComposeInverse.f n a b) (Ev.bind (f := fun k t198 => _) awake_ev (Ev.yes rfl ?_))
  refine Ev.bind (f := fun k t => _) (both_ev a b) ?_
  refine Ev.bind (f := fun k t => _) (allen_flip _) ?_
  refine Ev.bind (f := fun k t => _) (allen_flip b) ?_
  refine Ev.bind (f := fun k t => _) (allen_flip a) ?_
  refine Ev.bind (f := fun k t => _) (both_ev _ _) ?_
  rw [nm_nat (both_lt _ _), nm_nat (flip_lt _), nm_nat (flip_lt _), flip_both]
  refine Ev.yes rfl ?_
  refine Ev.bind (f := fun k t => _) (both_ev a 64) ?_
  rw [show nm 64 = 64 from by decide +kernel, both_eq _ (nm_lt a), and8191]
  refine Ev.yes rfl ?_
  refine Ev.bind (f := fun k t => _) (both_ev 64 a) ?_
  rw [show nm 64 = 64 from by decide +kernel, eq_both _ (nm_lt a)]
  refine Ev.yes rfl ?_
  refine Ev.bind (f := fun _ t => _) (both_ev a 0) ?_
  rw [show nm 0 = 0 from by decide +kernel, both_zero]
  exact Ev.now _
end Go.Proofs.YtficidiahlmimaaDoor.Pure
