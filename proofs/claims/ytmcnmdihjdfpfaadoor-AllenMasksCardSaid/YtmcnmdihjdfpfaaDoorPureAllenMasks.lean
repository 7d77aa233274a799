/- Of any mask and relation: it is listed just if its bit is there; flipped, its inverse is there just if it was; twice flipped all are the same; what is listed rises. -/
import Derived.Test.YtmcnmdihjdfpfaaDoorPx4
import Derived.Test.YtmcnmdihjdfpfaaDoorS1
namespace Go.Proofs.YtmcnmdihjdfpfaaDoor.Pure
open Go.RowKit Go.Proofs.YtmcnmdihjdfpfaaDoorW.PrintWords Go.Proofs.YtmcnmdihjdfpfaaDoorW.PrintLast Go.Proofs.YtmcnmdihjdfpfaaDoorW.PrintMore Go.Proofs.YtmcnmdihjdfpfaaDoor.P Go.Proofs.YtmcnmdihjdfpfaaDoor.S

def cnt (p : Nat → Bool) (i : Nat) : Nat := if p i = true then 1 else 0
theorem len_step (p : Nat → Bool) (i d : Nat) : (listFrom p i (d + 1)).length = cnt p i + (listFrom p (i + 1) d).length := by
  rw [listFrom]
  unfold cnt
  by_cases h : p i = true
  · rw [if_pos h, if_pos h, List.length_cons]; omega
  · rw [if_neg h, if_neg h]; omega
theorem len_zero (p : Nat → Bool) (i : Nat) : (listFrom p i 0).length = 0 := rfl
theorem len_flip (u : Nat) : (bitsOf (flip u)).length = (bitsOf u).length := by
  have hc : ∀ i, i < 13 → cnt (flip u).testBit i = cnt u.testBit (12 - i) := fun i hi => by
    unfold cnt
    have : (flip u).testBit i = u.testBit (12 - i) := by
      rw [Bool.eq_iff_iff, flip_bit]
      exact ⟨fun h => h.2, fun h => ⟨hi, h⟩⟩
    rw [this]
  unfold bitsOf
  simp only [len_step, len_zero, Nat.zero_add, Nat.reduceAdd]
  have h0 := hc 0 (by omega); have h1 := hc 1 (by omega); have h2 := hc 2 (by omega); have h3 := hc 3 (by omega); have h4 := hc 4 (by omega); have h5 := hc 5 (by omega); have h6 := hc 6 (by omega)
  have h7 := hc 7 (by omega); have h8 := hc 8 (by omega); have h9 := hc 9 (by omega); have h10 := hc 10 (by omega); have h11 := hc 11 (by omega); have h12 := hc 12 (by omega)
  simp only [Nat.reduceSub] at h0 h1 h2 h3 h4 h5 h6 h7 h8 h9 h10 h11 h12
  omega

theorem masks_loop (m r : Int) (up : Bool) (l : List Nat) (res : Bool) (hl : ∀ x ∈ l, x ≤ 12) (hs : l.Pairwise (· < ·)) (hn : l.length ≤ 100) : ∀ (l2 l1 : List Nat) (flag : Bool), l1 ++ l2 = l →
    Ev (fun k => lustrumlaw18_AllenMasks.l0 k m up r (ints l) (flag || l2.any fun x => (x : Int) == r) (l.length : Int)) res → Ev (fun k => lustrumlaw18_AllenMasks.l0 k m up r (ints l) flag (l1.length : Int)) res
  | [], l1, flag, h, he => by
    rw [List.append_nil] at h
    subst h
    simpa using he
  | x :: l2, l1, flag, h, he => by
    have hx : x ≤ 12 := hl x (by rw [← h]; simp)
    have hlen : ((ints l).length : Int) = l1.length + 1 + l2.length := by rw [← h]; simp [ints]; omega
    have hlt : l1.length + 1 + l2.length = l.length := by rw [← h]; simp; omega
    have e1 : rd (ints l) (l1.length : Int) = (x : Int) := by rw [← h]; exact rd_at
    have next : Ev (fun k => lustrumlaw18_AllenMasks.l0 k m up r (ints l) (flag || ((x : Int) == r)) (wrap64 ((l1.length : Int) + 1))) res := by
      rw [w64_add (by omega)]
      have := masks_loop m r up l res hl hs hn l2 (l1 ++ [x]) (flag || ((x : Int) == r)) (by rw [← h]; simp) (by
        rw [Bool.or_assoc]
        exact he)
      rw [List.length_append] at this
      exact this
    have back : ¬ l1 = [] → 0 ≤ wrap64 ((l1.length : Int) - 1) ∧ wrap64 ((l1.length : Int) - 1) < ((ints l).length : Int) ∧ ¬ (x : Int) ≤ rd (ints l) (wrap64 ((l1.length : Int) - 1)) := fun hne => by
      obtain ⟨l1', y, rfl⟩ : ∃ l1' y, l1 = l1' ++ [y] := ⟨l1.dropLast, l1.getLast hne, (List.dropLast_concat_getLast hne).symm⟩
      have hlen' : (l1' ++ [y]).length = l1'.length + 1 := by simp
      have e2 : wrap64 (((l1' ++ [y]).length : Int) - 1) = (l1'.length : Int) := by rw [wrap_nat (by omega) (by omega)]; omega
      have e3 : rd (ints l) (l1'.length : Int) = (y : Int) := by
        rw [← h, List.append_assoc]
        exact rd_at
      rw [e2, e3]
      have hyx : y < x := by
        rw [← h] at hs
        have := (List.pairwise_append.1 hs).2.2 y (by simp) x (by simp)
        exact this
      omega
    refine Ev.step (fun n => by rw [lustrumlaw18_AllenMasks.l0]) (Ev.yes (by omega) ?_)
    rw [e1]
    cases flag
    · refine Ev.no (by simp) (Ev.yes (by omega) (Ev.no (by omega) (Ev.no (by omega) ?_)))
      rw [Bool.false_or] at next
      by_cases hne : l1 = []
      · refine Ev.no (by rw [hne]; simp) next
      · obtain ⟨b1, b2, b3⟩ := back hne
        have : 0 < l1.length := List.length_pos_iff.2 hne
        exact Ev.yes (by omega) (Ev.yes b1 (Ev.yes b2 (Ev.no b3 next)))
    · refine Ev.yes rfl (Ev.yes (by omega) (Ev.no (by omega) (Ev.no (by omega) ?_)))
      rw [Bool.true_or] at next
      by_cases hne : l1 = []
      · refine Ev.no (by rw [hne]; simp) next
      · obtain ⟨b1, b2, b3⟩ := back hne
        have : 0 < l1.length := List.length_pos_iff.2 hne
        exact Ev.yes (by omega) (Ev.yes b1 (Ev.yes b2 (Ev.no b3 next)))

theorem AllenMasks (m k : Int) (_hm : I64 m) (_hk : I64 k) : ∃ n, lustrumlaw18_AllenMasks.f n m k = some true := by
  refine Ev.rounds (g := fun n => lustrumlaw18_AllenMasks.f n m k) (Ev.bind awake_ev (Ev.bind (f := fun n t140 => lustrumlaw18_AllenMasks.l0 n m true (Int.tmod (Go.bits .and .i64 k 65535) 13) t140 false 0) (allen_list m) ?_))
  rw [and65535]
  obtain ⟨r, hr, hr2⟩ : ∃ r : Nat, Int.tmod (k % 65536) 13 = (r : Int) ∧ r ≤ 12 := by
    refine ⟨((k % 65536) % 13).toNat, ?_, by omega⟩
    rw [Int.tmod_eq_emod_of_nonneg (by omega)]
    omega
  rw [hr]
  have hlen : (bitsOf (nm m)).length ≤ 13 := length_listFrom _ 13 0
  refine masks_loop m r true (bitsOf (nm m)) true (fun x hx => by have := (mem_bitsOf _ _).1 hx; omega) (rises_listFrom _ 13 0) (by omega) (bitsOf (nm m)) [] false rfl ?_
  have hin : (bitsOf (nm m)).any (fun x => (x : Int) == (r : Int)) = (nm m).testBit r := by
    rw [Bool.eq_iff_iff, List.any_eq_true]
    constructor
    · rintro ⟨x, h1, h2⟩
      obtain rfl : x = r := by
        have h3 : (x : Int) = (r : Int) := by simpa using h2
        omega
      exact ((mem_bitsOf _ _).1 h1).2
    · intro h
      exact ⟨r, (mem_bitsOf _ _).2 ⟨by omega, h⟩, by simp⟩
  rw [Bool.false_or, hin]
  refine Ev.step (fun n => by rw [lustrumlaw18_AllenMasks.l0]) (Ev.no (by simp [ints]) (Ev.bind (allen_flip m) ?_))
  have hfl := flip_lt (nm m)
  have hb : ∀ (q : Nat) (j : Nat), j ≤ 12 → ((Go.bits .and .i64 (shr .i64 (q : Int) (j : Int)) 1) == 1) = (nm q).testBit j := fun q j hj => by
    rw [bit_one _ j hj]
    by_cases h : (nm q).testBit j = true
    · rw [if_pos h, h]; rfl
    · rw [if_neg h]
      have : (nm q).testBit j = false := by simpa using h
      rw [this]; rfl
  have hb0 : ((Go.bits .and .i64 (shr .i64 m (r : Int)) 1) == 1) = (nm m).testBit r := by
    rw [bit_one _ r hr2]
    by_cases h : (nm m).testBit r = true
    · rw [if_pos h, h]; rfl
    · rw [if_neg h]
      have : (nm m).testBit r = false := by simpa using h
      rw [this]; rfl
  rw [u64_small hr2, w64_sub hr2, u64_small (show 12 - r ≤ 12 by omega), hb0, hb _ _ (by omega), nm_nat hfl]
  have hfb : (flip (nm m)).testBit (12 - r) = (nm m).testBit r := by
    rw [Bool.eq_iff_iff, flip_bit, show 12 - (12 - r) = r from by omega]
    exact ⟨fun h => h.2, fun h => ⟨by omega, h⟩⟩
  rw [hfb]
  refine Ev.yes (by omega) (Ev.yes rfl (Ev.yes (by simp) (Ev.yes (by omega) (Ev.yes (by simp) ?_))))
  have ff := allen_flip ((flip (nm m) : Nat) : Int)
  rw [nm_nat hfl, flip_flip _ (nm_lt m)] at ff
  refine Ev.bind ff ?_
  refine Ev.yes (and8191 m).symm (Ev.yes (by omega) (Ev.yes (by omega) ?_))
  have fl := allen_list ((flip (nm m) : Nat) : Int)
  rw [nm_nat hfl] at fl
  refine Ev.bind fl ?_
  have : ((ints (bitsOf (flip (nm m)))).length : Int) = ((ints (bitsOf (nm m))).length : Int) := by simp [ints, len_flip]
  rw [this]
  simp only [beq_self_eq_true]
  exact Ev.now _
end Go.Proofs.YtmcnmdihjdfpfaaDoor.Pure
