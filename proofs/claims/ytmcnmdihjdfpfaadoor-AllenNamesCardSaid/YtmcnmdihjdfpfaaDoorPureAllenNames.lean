/- Of any number and text: a relation's name is its own, what has no name is none, and what is named by a text bears that text. -/
import Derived.Test.YtmcnmdihjdfpfaaDoorPx7
import Derived.Test.YtmcnmdihjdfpfaaDoorS0
namespace Go.Proofs.YtmcnmdihjdfpfaaDoor.Pure
open Go.RowKit Go.Proofs.YtmcnmdihjdfpfaaDoorW.PrintWords Go.Proofs.YtmcnmdihjdfpfaaDoorW.PrintLast Go.Proofs.YtmcnmdihjdfpfaaDoorW.PrintMore Go.Proofs.YtmcnmdihjdfpfaaDoor.P Go.Proofs.YtmcnmdihjdfpfaaDoor.S

theorem named_spec : ∀ (l : List ByteArray) (i : Int) (s : ByteArray), namedFrom l i s = (0, false) ∨ ∃ k : Nat, k < l.length ∧ namedFrom l i s = (i + k, true) ∧ (l.getD k ByteArray.empty).toList = s.toList
  | [], i, s => .inl rfl
  | x :: l, i, s => by
    unfold namedFrom
    by_cases h : (x.toList == s.toList) = true
    · rw [if_pos h]
      refine .inr ⟨0, by simp, by simp, by simpa using h⟩
    · rw [if_neg h]
      rcases named_spec l (i + 1) s with e | ⟨k, hk, e, ht⟩
      · exact .inl e
      · refine .inr ⟨k + 1, by simp; omega, ?_, by simpa using ht⟩
        rw [e]
        congr 1
        omega
theorem name_out (r : Int) (h : r < 0 ∨ r > 12) : allen_Name.f r = some (⟨#[]⟩ : ByteArray) := by
  unfold allen_Name.f
  by_cases h1 : r < 0
  · rw [if_pos h1]
  · rw [if_neg h1, if_pos (by omega)]
theorem name_in (k : Nat) (h : k < 13) : allen_Name.f k = some (namesL.getD k ByteArray.empty) := by
  unfold allen_Name.f
  rw [if_neg (by omega), if_neg (by omega), Int.toNat_natCast]
theorem named_own : ∀ k, k < 13 → namedFrom namesL 0 (namesL.getD k ByteArray.empty) = ((k : Int), true) := by decide +kernel
theorem named_nil : namedFrom namesL 0 (⟨#[]⟩ : ByteArray) = (0, false) := by decide +kernel
theorem toList_nil : (⟨#[]⟩ : ByteArray).toList = ([] : List UInt8) := by decide +kernel

theorem AllenNames (r : Int) (s : ByteArray) (_hr : I64 r) (_hs : s.size ≤ 140737488351232) : ∃ n, lustrumlaw18_AllenNames.f n r s = some true := by
  refine Ev.rounds (g := fun n => lustrumlaw18_AllenNames.f n r s) (Ev.bind awake_ev ?_)
  by_cases hn : r < 0 ∨ r > 12
  · rw [name_out r hn]
    simp only [Option.bind_some, allen_Named.f, named_nil]
    have key : Ev (fun k => lustrumlaw18_AllenNames.j0 k r s true ⟨#[]⟩ 0 false (namedFrom namesL 0 s).1 (namedFrom namesL 0 s).2 true) true := by
      refine Ev.step (fun n => by rw [lustrumlaw18_AllenNames.j0, if_pos rfl]) ?_
      refine Ev.yes rfl (Ev.yes toList_nil (Ev.no (by simp) (Ev.yes rfl ?_)))
      rcases named_spec namesL 0 s with e | ⟨k, hk, e, ht⟩
      · rw [e]
        exact Ev.no (by simp) (Ev.yes rfl (Ev.now _))
      · rw [e]
        refine Ev.yes rfl ?_
        simp only [Int.zero_add]
        rw [name_in k hk]
        simp only [Option.bind_some]
        rw [ht]
        simp only [beq_self_eq_true]
        exact Ev.now _
    by_cases h1 : r < 0
    · exact Ev.yes h1 key
    · refine Ev.no h1 ?_
      rw [show decide (r > 12) = true from by simp; omega]
      exact key
  · obtain ⟨q, rfl⟩ := Int.eq_ofNat_of_zero_le (show 0 ≤ r by omega)
    have hq : q < 13 := by omega
    rw [name_in q hq]
    simp only [Option.bind_some, allen_Named.f, named_own q hq]
    refine Ev.no (by omega) ?_
    rw [show decide ((q : Int) > 12) = false from by simp; omega]
    refine Ev.step (fun n => by rw [lustrumlaw18_AllenNames.j0, if_neg (by simp)]) ?_
    refine Ev.yes rfl (Ev.yes rfl (Ev.yes rfl ?_))
    rcases named_spec namesL 0 s with e | ⟨k, hk, e, ht⟩
    · rw [e]
      exact Ev.no (by simp) (Ev.yes rfl (Ev.now _))
    · rw [e]
      have hk13 : k < 13 := hk
      refine Ev.yes rfl ?_
      simp only [Int.zero_add]
      refine Ev.yes (by omega) (Ev.yes (by omega) ?_)
      rw [name_in k hk]
      simp only [Option.bind_some]
      rw [ht]
      simp only [beq_self_eq_true]
      exact Ev.now _
end Go.Proofs.YtmcnmdihjdfpfaaDoor.Pure
