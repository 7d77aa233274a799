/- Of any three intervals the relation of the first and the third one is in what follows of the other two. -/
import Derived.Test.YtficidiahlmimaaDoorPx6
import Derived.Test.YtficidiahlmimaaDoorS4
namespace Go.Proofs.YtficidiahlmimaaDoor.Pure
open Go.RowKit Go.Proofs.YtficidiahlmimaaDoorW.PrintWords Go.Proofs.YtficidiahlmimaaDoorW.PrintLast Go.Proofs.YtficidiahlmimaaDoorW.PrintMore Go.Proofs.YtficidiahlmimaaDoor.P Go.Proofs.YtficidiahlmimaaDoor.S

theorem ComposeSound (a b c d e f : Int) (ha : I64 a) (hb : I64 b) (hc : I64 c) (hd : I64 d) (he : I64 e) (hf : I64 f) : ∃ n, lustrumlaw19_ComposeSound.f n a b c d e f = some true := by
  refine Ev.rounds (g := fun n => lustrumlaw19_ComposeSound.f n a b c d e f) (Ev.bind (f := fun k t172 => _) awake_ev ?_)
  simp only [allen_Of.f, Option.bind_some]
  by_cases x1 : b < a ∨ d < c
  · rw [ofI_none a b c d x1]
    exact Ev.no (by simp) (Ev.now _)
  by_cases x2 : d < c ∨ f < e
  · rw [ofI_none c d e f x2, ofI_rel a b c d ha hb hc hd (by omega) (by omega)]
    exact Ev.yes rfl (Ev.no (by simp) (Ev.now _))
  rw [ofI_rel a b c d ha hb hc hd (by omega) (by omega), ofI_rel c d e f hc hd he hf (by omega) (by omega), ofI_rel a b e f ha hb he hf (by omega) (by omega)]
  have hs := sound a b c d e f (by omega) (by omega) (by omega)
  have r1 := rel_range a b c d
  have r2 := rel_range c d e f
  have r3 := rel_range a b e f
  obtain ⟨r, hr⟩ := Int.eq_ofNat_of_zero_le r1.1
  obtain ⟨s, hs'⟩ := Int.eq_ofNat_of_zero_le r2.1
  obtain ⟨x, hx⟩ := Int.eq_ofNat_of_zero_le r3.1
  rw [hr, hs', hx] at hs ⊢
  simp only [Int.toNat_natCast] at hs
  refine Ev.yes rfl (Ev.yes rfl (Ev.yes rfl ?_))
  refine Ev.bind (f := fun _ t179 => _) (comp_ev r s (by omega) (by omega)) (Ev.yes trivial ?_)
  have ht := tab_lt r s (by omega) (by omega)
  simp only [u64_small (show x ≤ 12 by omega)]
  rw [bit_one _ x (by omega), nm_nat ht, if_pos hs]
  have hpos : 0 < tab r s := by
    apply Nat.pos_of_ne_zero
    intro h0
    rw [h0, Nat.zero_testBit] at hs
    cases hs
  refine Ev.yes (by omega) (Ev.yes rfl (Ev.yes (by omega) ?_))
  rw [show decide (((tab r s : Nat) : Int) < 8192) = true from by simp; omega]
  exact Ev.now _
end Go.Proofs.YtficidiahlmimaaDoor.Pure
