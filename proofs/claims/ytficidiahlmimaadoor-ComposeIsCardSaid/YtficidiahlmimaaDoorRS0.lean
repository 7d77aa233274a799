import Derived.Test.YtficidiahlmimaaDoorRx8
import Derived.Laws.BitsLemmas
namespace Go.Proofs.YtficidiahlmimaaDoor.S
open Go.RowKit Go.Proofs.YtficidiahlmimaaDoorW.PrintWords Go.Proofs.YtficidiahlmimaaDoorW.PrintLast Go.Proofs.YtficidiahlmimaaDoorW.PrintMore Go.Proofs.YtficidiahlmimaaDoor.P

theorem Ev.yes {α : Type} {c : Prop} [Decidable c] {g f : Nat → Option α} {r : α} (h : c) (k : Ev g r) : Ev (fun n => if c then g n else f n) r := Ev.congr (fun _ => if_pos h) k
theorem Ev.no {α : Type} {c : Prop} [Decidable c] {g f : Nat → Option α} {r : α} (h : ¬ c) (k : Ev f r) : Ev (fun n => if c then g n else f n) r := Ev.congr (fun _ => if_neg h) k
theorem wrap_nat {i : Int} (h0 : -9223372036854775808 ≤ i) (h1 : i ≤ 9223372036854775807) : wrap64 i = i := by
  unfold wrap64
  omega

/-- The relation that holds of two intervals. -/
def rel (a b c d : Int) : Int :=
  if b + 1 < c then 0 else if b + 1 = c then 1 else if d + 1 < a then 12 else if d + 1 = a then 11
  else if a < c then (if b < d then 2 else if b = d then 7 else 8)
  else if a = c then (if b < d then 3 else if b = d then 6 else 9)
  else (if b < d then 4 else if b = d then 5 else 10)

def I64 (x : Int) : Prop := -9223372036854775808 ≤ x ∧ x ≤ 9223372036854775807

theorem ofI_rel (a b c d : Int) (_ : I64 a) (hb : I64 b) (hc : I64 c) (hd : I64 d) (h1 : a ≤ b) (h2 : c ≤ d) : ofI a b c d = (rel a b c d, true) := by
  unfold I64 at hb hc hd
  unfold ofI rel
  rw [if_neg (by omega)]
  by_cases h3 : b < c
  · rw [if_pos h3, wrap_nat (by omega) (by omega)]
    by_cases h4 : b + 1 = c
    · rw [if_pos h4, if_neg (by omega), if_pos h4]
    · rw [if_neg h4, if_pos (by omega)]
  rw [if_neg h3, if_neg (show ¬ b + 1 < c by omega), if_neg (show ¬ b + 1 = c by omega)]
  by_cases h5 : d < a
  · rw [if_pos h5, wrap_nat (by omega) (by omega)]
    by_cases h4 : d + 1 = a
    · rw [if_pos h4, if_neg (by omega), if_pos h4]
    · rw [if_neg h4, if_pos (by omega)]
  rw [if_neg h5, if_neg (show ¬ d + 1 < a by omega), if_neg (show ¬ d + 1 = a by omega)]
  unfold cmpI
  by_cases x1 : a < c
  · rw [if_pos x1, if_pos x1]
    by_cases y1 : b < d
    · rw [if_pos y1, if_pos y1]; rfl
    · rw [if_neg y1, if_neg y1]
      by_cases y2 : d < b
      · rw [if_pos y2, if_neg (by omega)]; rfl
      · rw [if_neg y2, if_pos (by omega)]; rfl
  rw [if_neg x1, if_neg x1]
  by_cases x2 : c < a
  · rw [if_pos x2, if_neg (show ¬ a = c by omega)]
    by_cases y1 : b < d
    · rw [if_pos y1, if_pos y1]; rfl
    · rw [if_neg y1, if_neg y1]
      by_cases y2 : d < b
      · rw [if_pos y2, if_neg (by omega)]; rfl
      · rw [if_neg y2, if_pos (by omega)]; rfl
  rw [if_neg x2, if_pos (show a = c by omega)]
  by_cases y1 : b < d
  · rw [if_pos y1, if_pos y1]; rfl
  · rw [if_neg y1, if_neg y1]
    by_cases y2 : d < b
    · rw [if_pos y2, if_neg (by omega)]; rfl
    · rw [if_neg y2, if_pos (by omega)]; rfl

theorem ofI_none (a b c d : Int) (h : b < a ∨ d < c) : ofI a b c d = (0, false) := by
  unfold ofI
  rw [if_pos (by omega)]

theorem rel_range (a b c d : Int) : 0 ≤ rel a b c d ∧ rel a b c d ≤ 12 := by
  unfold rel
  repeat' split
  all_goals omega

set_option maxHeartbeats 4000000 in
theorem rel_inv (a b c d : Int) (h1 : a ≤ b) (h2 : c ≤ d) : rel a b c d + rel c d a b = 12 := by
  unfold rel
  by_cases x1 : b + 1 < c
  · rw [if_pos x1, if_neg (by omega), if_neg (by omega), if_pos x1]; rfl
  rw [if_neg x1]
  by_cases x2 : b + 1 = c
  · rw [if_pos x2, if_neg (by omega), if_neg (by omega), if_neg (by omega), if_pos x2]; rfl
  rw [if_neg x2]
  by_cases x3 : d + 1 < a
  · rw [if_pos x3, if_pos x3]; rfl
  rw [if_neg x3, if_neg x3]
  by_cases x4 : d + 1 = a
  · rw [if_pos x4, if_pos x4]; rfl
  rw [if_neg x4, if_neg x4, if_neg x1, if_neg x2]
  repeat' split
  all_goals omega

theorem rel_move (a b c d k : Int) : rel (a + k) (b + k) (c + k) (d + k) = rel a b c d := by
  unfold rel
  simp only [show (b + k + 1 < c + k) ↔ (b + 1 < c) from by omega, show (b + k + 1 = c + k) ↔ (b + 1 = c) from by omega, show (d + k + 1 < a + k) ↔ (d + 1 < a) from by omega, show (d + k + 1 = a + k) ↔ (d + 1 = a) from by omega,
    show (a + k < c + k) ↔ (a < c) from by omega, show (b + k < d + k) ↔ (b < d) from by omega, show (b + k = d + k) ↔ (b = d) from by omega, show (a + k = c + k) ↔ (a = c) from by omega]
end Go.Proofs.YtficidiahlmimaaDoor.S
