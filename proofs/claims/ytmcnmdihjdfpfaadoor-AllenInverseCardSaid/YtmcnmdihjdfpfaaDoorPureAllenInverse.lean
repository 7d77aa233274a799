/- Of any two intervals the relation of the second to the first is the inverse of the first to the second, the inverse of the inverse is the relation, and further on by the same days it is the same. -/
import Derived.Test.YtmcnmdihjdfpfaaDoorPx3
import Derived.Test.YtmcnmdihjdfpfaaDoorS0
namespace Go.Proofs.YtmcnmdihjdfpfaaDoor.Pure
open Go.RowKit Go.Proofs.YtmcnmdihjdfpfaaDoorW.PrintWords Go.Proofs.YtmcnmdihjdfpfaaDoorW.PrintLast Go.Proofs.YtmcnmdihjdfpfaaDoorW.PrintMore Go.Proofs.YtmcnmdihjdfpfaaDoor.P Go.Proofs.YtmcnmdihjdfpfaaDoor.S

theorem inverse_at (r : Int) (h0 : 0 ≤ r) (h1 : r ≤ 12) : allen_Inverse.f r = some (12 - r, true) := by
  unfold allen_Inverse.f
  rw [if_neg (by omega), if_neg (by omega), wrap_nat (by omega) (by omega)]

theorem AllenInverse (a b c d k : Int) (ha : I64 a) (hb : I64 b) (hc : I64 c) (hd : I64 d) (hk : I64 k) : ∃ n, lustrumlaw18_AllenInverse.f n a b c d k = some true := by
  refine Ev.rounds (g := fun n => lustrumlaw18_AllenInverse.f n a b c d k) (Ev.bind awake_ev ?_)
  by_cases hn : b < a ∨ d < c
  · have e1 : allen_Of.f a b c d = some (0, false) := by unfold allen_Of.f; rw [ofI_none a b c d hn]
    have e2 : allen_Of.f c d a b = some (0, false) := by unfold allen_Of.f; rw [ofI_none c d a b (by omega)]
    refine Ev.congr (f := fun _ => some true) (fun n => ?_) (Ev.now _)
    rw [e1, e2]
    rfl
  · have h1 : a ≤ b := by omega
    have h2 : c ≤ d := by omega
    have e1 : allen_Of.f a b c d = some (rel a b c d, true) := by unfold allen_Of.f; rw [ofI_rel a b c d ha hb hc hd h1 h2]
    have e2 : allen_Of.f c d a b = some (rel c d a b, true) := by unfold allen_Of.f; rw [ofI_rel c d a b hc hd ha hb h2 h1]
    have hr := rel_range a b c d
    have hv := rel_inv a b c d h1 h2
    have i1 := inverse_at (rel a b c d) hr.1 hr.2
    have i2 : allen_Inverse.f (12 - rel a b c d) = some (rel a b c d, true) := by
      rw [inverse_at _ (by omega) (by omega)]
      congr 2
      omega
    have hs : 12 - rel a b c d = rel c d a b := by omega
    rw [e1, e2]
    simp only [Option.bind_some]
    rw [i1]
    simp only [Option.bind_some]
    rw [i2]
    simp only [Option.bind_some]
    refine Ev.no (by simp) (Ev.yes trivial (Ev.yes trivial (Ev.yes trivial (Ev.yes hs (Ev.yes trivial ?_)))))
    have hsum : (wrap64 (rel a b c d + rel c d a b) != 12) = false := by
      rw [hv]
      decide +kernel
    rw [hsum]
    refine Ev.step (fun n => by rw [lustrumlaw18_AllenInverse.j0, if_neg (by simp)]) ?_
    unfold I64 at ha hb hc hd hk
    by_cases q1 : a < -2305843009213693952
    · exact Ev.yes q1 (Ev.now _)
    refine Ev.no q1 ?_
    by_cases q2 : b > 2305843009213693952
    · exact Ev.yes q2 (Ev.now _)
    refine Ev.no q2 ?_
    by_cases q3 : c < -2305843009213693952
    · exact Ev.yes q3 (Ev.now _)
    refine Ev.no q3 ?_
    by_cases q4 : d > 2305843009213693952
    · exact Ev.yes q4 (Ev.now _)
    refine Ev.no q4 ?_
    by_cases q5 : k < -2305843009213693952
    · exact Ev.yes q5 (Ev.now _)
    refine Ev.no q5 ?_
    by_cases q6 : k > 2305843009213693952
    · exact Ev.yes q6 (Ev.now _)
    refine Ev.no q6 ?_
    rw [wrap_nat (i := a + k) (by omega) (by omega), wrap_nat (i := b + k) (by omega) (by omega), wrap_nat (i := c + k) (by omega) (by omega), wrap_nat (i := d + k) (by omega) (by omega)]
    have e3 : allen_Of.f (a + k) (b + k) (c + k) (d + k) = some (rel a b c d, true) := by
      unfold allen_Of.f
      rw [ofI_rel (a + k) (b + k) (c + k) (d + k) (by unfold I64; omega) (by unfold I64; omega) (by unfold I64; omega) (by unfold I64; omega) (by omega) (by omega), rel_move]
    rw [e3]
    simp only [Option.bind_some, if_true, beq_self_eq_true]
    exact Ev.now _
end Go.Proofs.YtmcnmdihjdfpfaaDoor.Pure
