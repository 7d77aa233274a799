/- What holds of three intervals is among what follows of the two relations. -/
import Derived.Test.YtficidiahlmimaaDoorS3
namespace Go.Proofs.YtficidiahlmimaaDoor.S
open Go.RowKit Go.Proofs.YtficidiahlmimaaDoorW.PrintWords Go.Proofs.YtficidiahlmimaaDoorW.PrintLast Go.Proofs.YtficidiahlmimaaDoorW.PrintMore Go.Proofs.YtficidiahlmimaaDoor.P Go.Proofs.YtficidiahlmimaaDoor.S
theorem rel_cases (a b c d : Int) (h1 : a ≤ b) (h2 : c ≤ d) :
    (rel a b c d = 0 ∧ b + 1 < c) ∨ (rel a b c d = 1 ∧ b + 1 = c) ∨ (rel a b c d = 2 ∧ a < c ∧ c ≤ b ∧ b < d) ∨ (rel a b c d = 3 ∧ a = c ∧ b < d) ∨ (rel a b c d = 4 ∧ c < a ∧ b < d) ∨ (rel a b c d = 5 ∧ c < a ∧ a ≤ d ∧ b = d) ∨ (rel a b c d = 6 ∧ a = c ∧ b = d) ∨ (rel a b c d = 7 ∧ a < c ∧ c ≤ b ∧ b = d) ∨ (rel a b c d = 8 ∧ a < c ∧ d < b) ∨ (rel a b c d = 9 ∧ a = c ∧ d < b) ∨ (rel a b c d = 10 ∧ c < a ∧ a ≤ d ∧ d < b) ∨ (rel a b c d = 11 ∧ d + 1 = a) ∨ (rel a b c d = 12 ∧ d + 1 < a) := by
  unfold rel
  repeat' split
  all_goals (simp only [Int.reduceEq, false_and, or_false, false_or, true_and]; omega)
theorem sound0 (a b c d e f : Int) (h1 : a ≤ b) (h2 : c ≤ d) (h3 : e ≤ f) (h : b + 1 < c) : (tab 0 (rel c d e f).toNat).testBit (rel a b e f).toNat = true := by
  have k := rel_cases a b e f h1 h3
  rcases rel_cases c d e f h2 h3 with ⟨q, g⟩ | ⟨q, g⟩ | ⟨q, g⟩ | ⟨q, g⟩ | ⟨q, g⟩ | ⟨q, g⟩ | ⟨q, g⟩ | ⟨q, g⟩ | ⟨q, g⟩ | ⟨q, g⟩ | ⟨q, g⟩ | ⟨q, g⟩ | ⟨q, g⟩ <;> rw [q] <;> clear q <;> rcases k with ⟨q, g2⟩ | ⟨q, g2⟩ | ⟨q, g2⟩ | ⟨q, g2⟩ | ⟨q, g2⟩ | ⟨q, g2⟩ | ⟨q, g2⟩ | ⟨q, g2⟩ | ⟨q, g2⟩ | ⟨q, g2⟩ | ⟨q, g2⟩ | ⟨q, g2⟩ | ⟨q, g2⟩ <;> rw [q] <;> clear q <;> first | rfl | (exfalso; omega)
theorem sound1 (a b c d e f : Int) (h1 : a ≤ b) (h2 : c ≤ d) (h3 : e ≤ f) (h : b + 1 = c) : (tab 1 (rel c d e f).toNat).testBit (rel a b e f).toNat = true := by
  have k := rel_cases a b e f h1 h3
  rcases rel_cases c d e f h2 h3 with ⟨q, g⟩ | ⟨q, g⟩ | ⟨q, g⟩ | ⟨q, g⟩ | ⟨q, g⟩ | ⟨q, g⟩ | ⟨q, g⟩ | ⟨q, g⟩ | ⟨q, g⟩ | ⟨q, g⟩ | ⟨q, g⟩ | ⟨q, g⟩ | ⟨q, g⟩ <;> rw [q] <;> clear q <;> rcases k with ⟨q, g2⟩ | ⟨q, g2⟩ | ⟨q, g2⟩ | ⟨q, g2⟩ | ⟨q, g2⟩ | ⟨q, g2⟩ | ⟨q, g2⟩ | ⟨q, g2⟩ | ⟨q, g2⟩ | ⟨q, g2⟩ | ⟨q, g2⟩ | ⟨q, g2⟩ | ⟨q, g2⟩ <;> rw [q] <;> clear q <;> first | rfl | (exfalso; omega)
theorem sound2 (a b c d e f : Int) (h1 : a ≤ b) (h2 : c ≤ d) (h3 : e ≤ f) (h : a < c ∧ c ≤ b ∧ b < d) : (tab 2 (rel c d e f).toNat).testBit (rel a b e f).toNat = true := by
  have k := rel_cases a b e f h1 h3
  rcases rel_cases c d e f h2 h3 with ⟨q, g⟩ | ⟨q, g⟩ | ⟨q, g⟩ | ⟨q, g⟩ | ⟨q, g⟩ | ⟨q, g⟩ | ⟨q, g⟩ | ⟨q, g⟩ | ⟨q, g⟩ | ⟨q, g⟩ | ⟨q, g⟩ | ⟨q, g⟩ | ⟨q, g⟩ <;> rw [q] <;> clear q <;> rcases k with ⟨q, g2⟩ | ⟨q, g2⟩ | ⟨q, g2⟩ | ⟨q, g2⟩ | ⟨q, g2⟩ | ⟨q, g2⟩ | ⟨q, g2⟩ | ⟨q, g2⟩ | ⟨q, g2⟩ | ⟨q, g2⟩ | ⟨q, g2⟩ | ⟨q, g2⟩ | ⟨q, g2⟩ <;> rw [q] <;> clear q <;> first | rfl | (exfalso; omega)
theorem sound3 (a b c d e f : Int) (h1 : a ≤ b) (h2 : c ≤ d) (h3 : e ≤ f) (h : a = c ∧ b < d) : (tab 3 (rel c d e f).toNat).testBit (rel a b e f).toNat = true := by
  have k := rel_cases a b e f h1 h3
  rcases rel_cases c d e f h2 h3 with ⟨q, g⟩ | ⟨q, g⟩ | ⟨q, g⟩ | ⟨q, g⟩ | ⟨q, g⟩ | ⟨q, g⟩ | ⟨q, g⟩ | ⟨q, g⟩ | ⟨q, g⟩ | ⟨q, g⟩ | ⟨q, g⟩ | ⟨q, g⟩ | ⟨q, g⟩ <;> rw [q] <;> clear q <;> rcases k with ⟨q, g2⟩ | ⟨q, g2⟩ | ⟨q, g2⟩ | ⟨q, g2⟩ | ⟨q, g2⟩ | ⟨q, g2⟩ | ⟨q, g2⟩ | ⟨q, g2⟩ | ⟨q, g2⟩ | ⟨q, g2⟩ | ⟨q, g2⟩ | ⟨q, g2⟩ | ⟨q, g2⟩ <;> rw [q] <;> clear q <;> first | rfl | (exfalso; omega)
theorem sound4 (a b c d e f : Int) (h1 : a ≤ b) (h2 : c ≤ d) (h3 : e ≤ f) (h : c < a ∧ b < d) : (tab 4 (rel c d e f).toNat).testBit (rel a b e f).toNat = true := by
  have k := rel_cases a b e f h1 h3
  rcases rel_cases c d e f h2 h3 with ⟨q, g⟩ | ⟨q, g⟩ | ⟨q, g⟩ | ⟨q, g⟩ | ⟨q, g⟩ | ⟨q, g⟩ | ⟨q, g⟩ | ⟨q, g⟩ | ⟨q, g⟩ | ⟨q, g⟩ | ⟨q, g⟩ | ⟨q, g⟩ | ⟨q, g⟩ <;> rw [q] <;> clear q <;> rcases k with ⟨q, g2⟩ | ⟨q, g2⟩ | ⟨q, g2⟩ | ⟨q, g2⟩ | ⟨q, g2⟩ | ⟨q, g2⟩ | ⟨q, g2⟩ | ⟨q, g2⟩ | ⟨q, g2⟩ | ⟨q, g2⟩ | ⟨q, g2⟩ | ⟨q, g2⟩ | ⟨q, g2⟩ <;> rw [q] <;> clear q <;> first | rfl | (exfalso; omega)
theorem sound5 (a b c d e f : Int) (h1 : a ≤ b) (h2 : c ≤ d) (h3 : e ≤ f) (h : c < a ∧ a ≤ d ∧ b = d) : (tab 5 (rel c d e f).toNat).testBit (rel a b e f).toNat = true := by
  have k := rel_cases a b e f h1 h3
  rcases rel_cases c d e f h2 h3 with ⟨q, g⟩ | ⟨q, g⟩ | ⟨q, g⟩ | ⟨q, g⟩ | ⟨q, g⟩ | ⟨q, g⟩ | ⟨q, g⟩ | ⟨q, g⟩ | ⟨q, g⟩ | ⟨q, g⟩ | ⟨q, g⟩ | ⟨q, g⟩ | ⟨q, g⟩ <;> rw [q] <;> clear q <;> rcases k with ⟨q, g2⟩ | ⟨q, g2⟩ | ⟨q, g2⟩ | ⟨q, g2⟩ | ⟨q, g2⟩ | ⟨q, g2⟩ | ⟨q, g2⟩ | ⟨q, g2⟩ | ⟨q, g2⟩ | ⟨q, g2⟩ | ⟨q, g2⟩ | ⟨q, g2⟩ | ⟨q, g2⟩ <;> rw [q] <;> clear q <;> first | rfl | (exfalso; omega)
theorem sound6 (a b c d e f : Int) (h1 : a ≤ b) (h2 : c ≤ d) (h3 : e ≤ f) (h : a = c ∧ b = d) : (tab 6 (rel c d e f).toNat).testBit (rel a b e f).toNat = true := by
  have k := rel_cases a b e f h1 h3
  rcases rel_cases c d e f h2 h3 with ⟨q, g⟩ | ⟨q, g⟩ | ⟨q, g⟩ | ⟨q, g⟩ | ⟨q, g⟩ | ⟨q, g⟩ | ⟨q, g⟩ | ⟨q, g⟩ | ⟨q, g⟩ | ⟨q, g⟩ | ⟨q, g⟩ | ⟨q, g⟩ | ⟨q, g⟩ <;> rw [q] <;> clear q <;> rcases k with ⟨q, g2⟩ | ⟨q, g2⟩ | ⟨q, g2⟩ | ⟨q, g2⟩ | ⟨q, g2⟩ | ⟨q, g2⟩ | ⟨q, g2⟩ | ⟨q, g2⟩ | ⟨q, g2⟩ | ⟨q, g2⟩ | ⟨q, g2⟩ | ⟨q, g2⟩ | ⟨q, g2⟩ <;> rw [q] <;> clear q <;> first | rfl | (exfalso; omega)
theorem sound7 (a b c d e f : Int) (h1 : a ≤ b) (h2 : c ≤ d) (h3 : e ≤ f) (h : a < c ∧ c ≤ b ∧ b = d) : (tab 7 (rel c d e f).toNat).testBit (rel a b e f).toNat = true := by
  have k := rel_cases a b e f h1 h3
  rcases rel_cases c d e f h2 h3 with ⟨q, g⟩ | ⟨q, g⟩ | ⟨q, g⟩ | ⟨q, g⟩ | ⟨q, g⟩ | ⟨q, g⟩ | ⟨q, g⟩ | ⟨q, g⟩ | ⟨q, g⟩ | ⟨q, g⟩ | ⟨q, g⟩ | ⟨q, g⟩ | ⟨q, g⟩ <;> rw [q] <;> clear q <;> rcases k with ⟨q, g2⟩ | ⟨q, g2⟩ | ⟨q, g2⟩ | ⟨q, g2⟩ | ⟨q, g2⟩ | ⟨q, g2⟩ | ⟨q, g2⟩ | ⟨q, g2⟩ | ⟨q, g2⟩ | ⟨q, g2⟩ | ⟨q, g2⟩ | ⟨q, g2⟩ | ⟨q, g2⟩ <;> rw [q] <;> clear q <;> first | rfl | (exfalso; omega)
theorem sound8 (a b c d e f : Int) (h1 : a ≤ b) (h2 : c ≤ d) (h3 : e ≤ f) (h : a < c ∧ d < b) : (tab 8 (rel c d e f).toNat).testBit (rel a b e f).toNat = true := by
  have k := rel_cases a b e f h1 h3
  rcases rel_cases c d e f h2 h3 with ⟨q, g⟩ | ⟨q, g⟩ | ⟨q, g⟩ | ⟨q, g⟩ | ⟨q, g⟩ | ⟨q, g⟩ | ⟨q, g⟩ | ⟨q, g⟩ | ⟨q, g⟩ | ⟨q, g⟩ | ⟨q, g⟩ | ⟨q, g⟩ | ⟨q, g⟩ <;> rw [q] <;> clear q <;> rcases k with ⟨q, g2⟩ | ⟨q, g2⟩ | ⟨q, g2⟩ | ⟨q, g2⟩ | ⟨q, g2⟩ | ⟨q, g2⟩ | ⟨q, g2⟩ | ⟨q, g2⟩ | ⟨q, g2⟩ | ⟨q, g2⟩ | ⟨q, g2⟩ | ⟨q, g2⟩ | ⟨q, g2⟩ <;> rw [q] <;> clear q <;> first | rfl | (exfalso; omega)
theorem sound9 (a b c d e f : Int) (h1 : a ≤ b) (h2 : c ≤ d) (h3 : e ≤ f) (h : a = c ∧ d < b) : (tab 9 (rel c d e f).toNat).testBit (rel a b e f).toNat = true := by
  have k := rel_cases a b e f h1 h3
  rcases rel_cases c d e f h2 h3 with ⟨q, g⟩ | ⟨q, g⟩ | ⟨q, g⟩ | ⟨q, g⟩ | ⟨q, g⟩ | ⟨q, g⟩ | ⟨q, g⟩ | ⟨q, g⟩ | ⟨q, g⟩ | ⟨q, g⟩ | ⟨q, g⟩ | ⟨q, g⟩ | ⟨q, g⟩ <;> rw [q] <;> clear q <;> rcases k with ⟨q, g2⟩ | ⟨q, g2⟩ | ⟨q, g2⟩ | ⟨q, g2⟩ | ⟨q, g2⟩ | ⟨q, g2⟩ | ⟨q, g2⟩ | ⟨q, g2⟩ | ⟨q, g2⟩ | ⟨q, g2⟩ | ⟨q, g2⟩ | ⟨q, g2⟩ | ⟨q, g2⟩ <;> rw [q] <;> clear q <;> first | rfl | (exfalso; omega)
theorem sound10 (a b c d e f : Int) (h1 : a ≤ b) (h2 : c ≤ d) (h3 : e ≤ f) (h : c < a ∧ a ≤ d ∧ d < b) : (tab 10 (rel c d e f).toNat).testBit (rel a b e f).toNat = true := by
  have k := rel_cases a b e f h1 h3
  rcases rel_cases c d e f h2 h3 with ⟨q, g⟩ | ⟨q, g⟩ | ⟨q, g⟩ | ⟨q, g⟩ | ⟨q, g⟩ | ⟨q, g⟩ | ⟨q, g⟩ | ⟨q, g⟩ | ⟨q, g⟩ | ⟨q, g⟩ | ⟨q, g⟩ | ⟨q, g⟩ | ⟨q, g⟩ <;> rw [q] <;> clear q <;> rcases k with ⟨q, g2⟩ | ⟨q, g2⟩ | ⟨q, g2⟩ | ⟨q, g2⟩ | ⟨q, g2⟩ | ⟨q, g2⟩ | ⟨q, g2⟩ | ⟨q, g2⟩ | ⟨q, g2⟩ | ⟨q, g2⟩ | ⟨q, g2⟩ | ⟨q, g2⟩ | ⟨q, g2⟩ <;> rw [q] <;> clear q <;> first | rfl | (exfalso; omega)
theorem sound11 (a b c d e f : Int) (h1 : a ≤ b) (h2 : c ≤ d) (h3 : e ≤ f) (h : d + 1 = a) : (tab 11 (rel c d e f).toNat).testBit (rel a b e f).toNat = true := by
  have k := rel_cases a b e f h1 h3
  rcases rel_cases c d e f h2 h3 with ⟨q, g⟩ | ⟨q, g⟩ | ⟨q, g⟩ | ⟨q, g⟩ | ⟨q, g⟩ | ⟨q, g⟩ | ⟨q, g⟩ | ⟨q, g⟩ | ⟨q, g⟩ | ⟨q, g⟩ | ⟨q, g⟩ | ⟨q, g⟩ | ⟨q, g⟩ <;> rw [q] <;> clear q <;> rcases k with ⟨q, g2⟩ | ⟨q, g2⟩ | ⟨q, g2⟩ | ⟨q, g2⟩ | ⟨q, g2⟩ | ⟨q, g2⟩ | ⟨q, g2⟩ | ⟨q, g2⟩ | ⟨q, g2⟩ | ⟨q, g2⟩ | ⟨q, g2⟩ | ⟨q, g2⟩ | ⟨q, g2⟩ <;> rw [q] <;> clear q <;> first | rfl | (exfalso; omega)
theorem sound12 (a b c d e f : Int) (h1 : a ≤ b) (h2 : c ≤ d) (h3 : e ≤ f) (h : d + 1 < a) : (tab 12 (rel c d e f).toNat).testBit (rel a b e f).toNat = true := by
  have k := rel_cases a b e f h1 h3
  rcases rel_cases c d e f h2 h3 with ⟨q, g⟩ | ⟨q, g⟩ | ⟨q, g⟩ | ⟨q, g⟩ | ⟨q, g⟩ | ⟨q, g⟩ | ⟨q, g⟩ | ⟨q, g⟩ | ⟨q, g⟩ | ⟨q, g⟩ | ⟨q, g⟩ | ⟨q, g⟩ | ⟨q, g⟩ <;> rw [q] <;> clear q <;> rcases k with ⟨q, g2⟩ | ⟨q, g2⟩ | ⟨q, g2⟩ | ⟨q, g2⟩ | ⟨q, g2⟩ | ⟨q, g2⟩ | ⟨q, g2⟩ | ⟨q, g2⟩ | ⟨q, g2⟩ | ⟨q, g2⟩ | ⟨q, g2⟩ | ⟨q, g2⟩ | ⟨q, g2⟩ <;> rw [q] <;> clear q <;> first | rfl | (exfalso; omega)
theorem sound (a b c d e f : Int) (h1 : a ≤ b) (h2 : c ≤ d) (h3 : e ≤ f) : (tab (rel a b c d).toNat (rel c d e f).toNat).testBit (rel a b e f).toNat = true := by
  rcases rel_cases a b c d h1 h2 with ⟨q, g⟩ | ⟨q, g⟩ | ⟨q, g⟩ | ⟨q, g⟩ | ⟨q, g⟩ | ⟨q, g⟩ | ⟨q, g⟩ | ⟨q, g⟩ | ⟨q, g⟩ | ⟨q, g⟩ | ⟨q, g⟩ | ⟨q, g⟩ | ⟨q, g⟩ <;> rw [q]
  · exact sound0 a b c d e f h1 h2 h3 g
  · exact sound1 a b c d e f h1 h2 h3 g
  · exact sound2 a b c d e f h1 h2 h3 g
  · exact sound3 a b c d e f h1 h2 h3 g
  · exact sound4 a b c d e f h1 h2 h3 g
  · exact sound5 a b c d e f h1 h2 h3 g
  · exact sound6 a b c d e f h1 h2 h3 g
  · exact sound7 a b c d e f h1 h2 h3 g
  · exact sound8 a b c d e f h1 h2 h3 g
  · exact sound9 a b c d e f h1 h2 h3 g
  · exact sound10 a b c d e f h1 h2 h3 g
  · exact sound11 a b c d e f h1 h2 h3 g
  · exact sound12 a b c d e f h1 h2 h3 g
end Go.Proofs.YtficidiahlmimaaDoor.S
