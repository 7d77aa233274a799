/- What holds is what it means: of any two intervals the relation said is the one that starts and ends show. -/
import Derived.Test.YtmcnmdihjdfpfaaDoorMeans
namespace Go.Proofs.YtmcnmdihjdfpfaaDoor.Pure
open Go.RowKit Go.Proofs.YtmcnmdihjdfpfaaDoorW.PrintWords Go.Proofs.YtmcnmdihjdfpfaaDoorW.PrintLast Go.Proofs.YtmcnmdihjdfpfaaDoorW.PrintMore Go.Proofs.YtmcnmdihjdfpfaaDoor.P Go.Proofs.YtmcnmdihjdfpfaaDoor.S

theorem rel_cases (a b c d : Int) (h1 : a ≤ b) (h2 : c ≤ d) :
    (rel a b c d = 0 ∧ b + 1 < c) ∨ (rel a b c d = 1 ∧ b + 1 = c) ∨ (rel a b c d = 2 ∧ a < c ∧ c ≤ b ∧ b < d) ∨ (rel a b c d = 3 ∧ a = c ∧ b < d) ∨ (rel a b c d = 4 ∧ c < a ∧ b < d) ∨ (rel a b c d = 5 ∧ c < a ∧ a ≤ d ∧ b = d) ∨ (rel a b c d = 6 ∧ a = c ∧ b = d) ∨ (rel a b c d = 7 ∧ a < c ∧ c ≤ b ∧ b = d) ∨ (rel a b c d = 8 ∧ a < c ∧ d < b) ∨ (rel a b c d = 9 ∧ a = c ∧ d < b) ∨ (rel a b c d = 10 ∧ c < a ∧ a ≤ d ∧ d < b) ∨ (rel a b c d = 11 ∧ d + 1 = a) ∨ (rel a b c d = 12 ∧ d + 1 < a) := by
  unfold rel
  repeat' split
  all_goals (simp only [Int.reduceEq, false_and, or_false, false_or, true_and]; omega)
theorem means_calls (a b c d : Int) (ha : I64 a) (hb : I64 b) (hc : I64 c) (hd : I64 d) (w : World) (hG : GInv w) :
    Calls Tryd.prog 3 #[.agg #[.int .i64 a, .int .i64 b], .agg #[.int .i64 c, .int .i64 d]] w fun e w' => e = .returned (.bool true) ∧ Below w.heap.size w w' := by
  obtain ⟨k, hk⟩ := Ev.rounds awake_ev
  by_cases x1 : b < a
  · exact meansN k a b c d w hG hk (by rw [allen_Of.f, ofI_none a b c d (.inl x1)]) x1
  by_cases x2 : d < c
  · exact meansM k a b c d w hG hk (by rw [allen_Of.f, ofI_none a b c d (.inr x2)]) x1 x2
  have h1 : a ≤ b := by omega
  have h2 : c ≤ d := by omega
  have e : allen_Of.f a b c d = some (rel a b c d, true) := by rw [allen_Of.f, ofI_rel a b c d ha hb hc hd h1 h2]
  rcases rel_cases a b c d h1 h2 with ⟨q, g⟩ | ⟨q, g⟩ | ⟨q, g⟩ | ⟨q, g⟩ | ⟨q, g⟩ | ⟨q, g⟩ | ⟨q, g⟩ | ⟨q, g⟩ | ⟨q, g⟩ | ⟨q, g⟩ | ⟨q, g⟩ | ⟨q, g⟩ | ⟨q, g⟩ <;> rw [q] at e
  · exact means0 k a b c d w hG hk e h1 h2 g hb.1 hc.2
  · exact means1 k a b c d w hG hk e h1 h2 g hb.1 hc.2
  · exact means2 k a b c d w hG hk e h1 h2 g
  · exact means3 k a b c d w hG hk e h1 h2 g
  · exact means4 k a b c d w hG hk e h1 h2 g
  · exact means5 k a b c d w hG hk e h1 h2 g
  · exact means6 k a b c d w hG hk e h1 h2 g
  · exact means7 k a b c d w hG hk e h1 h2 g
  · exact means8 k a b c d w hG hk e h1 h2 g
  · exact means9 k a b c d w hG hk e h1 h2 g
  · exact means10 k a b c d w hG hk e h1 h2 g
  · exact means11 k a b c d w hG hk e h1 h2 g hd.1 ha.2
  · exact means12 k a b c d w hG hk e h1 h2 g hd.1 ha.2
end Go.Proofs.YtmcnmdihjdfpfaaDoor.Pure
