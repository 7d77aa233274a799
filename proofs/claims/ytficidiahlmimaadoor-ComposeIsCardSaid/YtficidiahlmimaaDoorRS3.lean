/- What follows of two masks: compose.Both is the union over the bits. -/
import Derived.Test.YtficidiahlmimaaDoorRS1
import Derived.Test.YtficidiahlmimaaDoorRS2
namespace Go.Proofs.YtficidiahlmimaaDoor.S
open Go.RowKit Go.Proofs.YtficidiahlmimaaDoorW.PrintWords Go.Proofs.YtficidiahlmimaaDoorW.PrintLast Go.Proofs.YtficidiahlmimaaDoorW.PrintMore Go.Proofs.YtficidiahlmimaaDoor.P

theorem tab_lt (r s : Nat) (hr : r ≤ 12) (hs : s ≤ 12) : tab r s < 8192 := by
  have h : ((List.range 13).all fun r => (List.range 13).all fun s => decide (tab r s < 8192)) = true := by decide +kernel
  rw [List.all_eq_true] at h
  have h2 := h r (List.mem_range.2 (by omega))
  rw [List.all_eq_true] at h2
  exact of_decide_eq_true (h2 s (List.mem_range.2 (by omega)))
theorem or_lt2 {a b : Nat} (ha : a < 8192) (hb : b < 8192) : a ||| b < 8192 := Nat.or_lt_two_pow (n := 13) ha hb
def orRow (r : Nat) : Nat → List Nat → Nat
  | acc, [] => acc
  | acc, s :: l => orRow r (acc ||| tab r s) l
def orTab (l2 : List Nat) : Nat → List Nat → Nat
  | acc, [] => acc
  | acc, r :: l => orTab l2 (orRow r acc l2) l
theorem orRow_lt (r : Nat) (hr : r ≤ 12) : ∀ (l : List Nat) (acc : Nat), (∀ x ∈ l, x ≤ 12) → acc < 8192 → orRow r acc l < 8192
  | [], _, _, h => h
  | s :: l, acc, hl, h => orRow_lt r hr l _ (fun x hx => hl x (by simp [hx])) (or_lt2 h (tab_lt r s hr (hl s (by simp))))
theorem orTab_lt (l2 : List Nat) (h2 : ∀ x ∈ l2, x ≤ 12) : ∀ (l : List Nat) (acc : Nat), (∀ x ∈ l, x ≤ 12) → acc < 8192 → orTab l2 acc l < 8192
  | [], _, _, h => h
  | r :: l, acc, hl, h => orTab_lt l2 h2 l _ (fun x hx => hl x (by simp [hx])) (orRow_lt r (hl r (by simp)) l2 acc h2 h)
theorem orRow_bit (r : Nat) : ∀ (l : List Nat) (acc j : Nat), (orRow r acc l).testBit j = true ↔ acc.testBit j = true ∨ ∃ s ∈ l, (tab r s).testBit j = true
  | [], acc, j => by simp [orRow]
  | s :: l, acc, j => by
    unfold orRow
    rw [orRow_bit r l, Nat.testBit_or]
    simp only [Bool.or_eq_true, List.mem_cons, exists_eq_or_imp]
    constructor
    · rintro ((h | h) | h)
      · exact .inl h
      · exact .inr (.inl h)
      · exact .inr (.inr h)
    · rintro (h | h | h)
      · exact .inl (.inl h)
      · exact .inl (.inr h)
      · exact .inr h
theorem orTab_bit (l2 : List Nat) : ∀ (l : List Nat) (acc j : Nat), (orTab l2 acc l).testBit j = true ↔ acc.testBit j = true ∨ ∃ r ∈ l, ∃ s ∈ l2, (tab r s).testBit j = true
  | [], acc, j => by simp [orTab]
  | r :: l, acc, j => by
    unfold orTab
    rw [orTab_bit l2 l, orRow_bit]
    simp only [List.mem_cons, exists_eq_or_imp]
    constructor
    · rintro ((h | h) | h)
      · exact .inl h
      · exact .inr (.inl h)
      · exact .inr (.inr h)
    · rintro (h | h | h)
      · exact .inl (.inl h)
      · exact .inl (.inr h)
      · exact .inr h
/-- What follows of two masks. -/
def both (u v : Nat) : Nat := orTab (bitsOf v) 0 (bitsOf u)
theorem bitsOf_le (u : Nat) : ∀ x ∈ bitsOf u, x ≤ 12 := fun x hx => by
  have := (mem_bitsOf u x).1 hx
  omega
theorem bitsOf_len (u : Nat) : (bitsOf u).length ≤ 13 := length_listFrom _ 13 0
theorem both_lt (u v : Nat) : both u v < 8192 := orTab_lt _ (bitsOf_le v) _ _ (bitsOf_le u) (by decide)
theorem both_bit (u v j : Nat) : (both u v).testBit j = true ↔ ∃ r s, r < 13 ∧ s < 13 ∧ u.testBit r = true ∧ v.testBit s = true ∧ (tab r s).testBit j = true := by
  unfold both
  rw [orTab_bit]
  simp only [Nat.zero_testBit, Bool.false_eq_true, false_or, mem_bitsOf]
  constructor
  · rintro ⟨r, ⟨h1, h2⟩, s, ⟨h3, h4⟩, h5⟩
    exact ⟨r, s, h1, h3, h2, h4, h5⟩
  · rintro ⟨r, s, h1, h3, h2, h4, h5⟩
    exact ⟨r, ⟨h1, h2⟩, s, ⟨h3, h4⟩, h5⟩

theorem row_ev (b : Int) (r : Nat) (hr : r ≤ 12) (l0 : List Int) (n0 i0 : Int) (res : Int) : ∀ (l2 l1 : List Nat) (acc : Nat), acc < 8192 → (∀ x ∈ l2, x ≤ 12) → (l1 ++ l2).length ≤ 100 →
    Ev (fun k => compose_Both.l0 k b ((orRow r acc l2 : Nat) : Int) l0 n0 (wrap64 (i0 + 1))) res →
    Ev (fun k => compose_Both.l1 k b (acc : Int) (r : Int) l0 n0 i0 (ints (l1 ++ l2)) ((ints (l1 ++ l2)).length : Int) (l1.length : Int)) res
  | [], l1, acc, _, _, _, h => by
    refine Ev.step (fun n => by rw [compose_Both.l1]) (Ev.no (by simp [ints]) ?_)
    exact h
  | s :: l2, l1, acc, ha, hl, hn, h => by
    have hs : s ≤ 12 := hl s (by simp)
    have hlen : ((ints (l1 ++ s :: l2)).length : Int) = l1.length + 1 + l2.length := by simp [ints]; omega
    simp at hn
    refine Ev.step (fun n => by rw [compose_Both.l1]) (Ev.yes (by omega) (Ev.yes (by omega) (Ev.yes (by omega) ?_)))
    rw [rd_at, w64_add (by omega)]
    refine Ev.bind (f := fun k t146 => compose_Both.l1 k b (Go.bits .or .i64 (acc : Int) t146) (r : Int) l0 n0 i0 (ints (l1 ++ s :: l2)) ((ints (l1 ++ s :: l2)).length : Int) ((l1.length + 1 : Nat) : Int)) (comp_ev r s hr hs) ?_
    rw [or_nat _ _ ha (tab_lt r s hr hs)]
    have := row_ev b r hr l0 n0 i0 res l2 (l1 ++ [s]) (acc ||| tab r s) (or_lt2 ha (tab_lt r s hr hs)) (fun y hy => hl y (by simp [hy])) (by simp; omega) h
    rw [List.append_assoc, List.length_append] at this
    exact this
theorem tab_ev (b : Int) : ∀ (l2 l1 : List Nat) (acc : Nat), acc < 8192 → (∀ x ∈ l2, x ≤ 12) → (l1 ++ l2).length ≤ 100 →
    Ev (fun k => compose_Both.l0 k b (acc : Int) (ints (l1 ++ l2)) ((ints (l1 ++ l2)).length : Int) (l1.length : Int)) ((orTab (bitsOf (nm b)) acc l2 : Nat) : Int)
  | [], l1, acc, _, _, _ => by
    refine Ev.step (fun n => by rw [compose_Both.l0]) (Ev.no (by simp [ints]) ?_)
    exact Ev.now _
  | r :: l2, l1, acc, ha, hl, hn => by
    have hr : r ≤ 12 := hl r (by simp)
    have hlen : ((ints (l1 ++ r :: l2)).length : Int) = l1.length + 1 + l2.length := by simp [ints]; omega
    simp at hn
    refine Ev.step (fun n => by rw [compose_Both.l0]) (Ev.yes (by omega) (Ev.yes (by omega) (Ev.yes (by omega) ?_)))
    rw [rd_at]
    refine Ev.bind (f := fun k t142 => compose_Both.l1 k b (acc : Int) (r : Int) (ints (l1 ++ r :: l2)) ((ints (l1 ++ r :: l2)).length : Int) (l1.length : Int) t142 (t142.length : Int) 0) (allen_list b) ?_
    refine row_ev b r hr (ints (l1 ++ r :: l2)) _ _ _ (bitsOf (nm b)) [] acc ha (bitsOf_le _) (by have := bitsOf_len (nm b); simp; omega) ?_
    rw [w64_add (by omega)]
    have := tab_ev b l2 (l1 ++ [r]) (orRow r acc (bitsOf (nm b))) (orRow_lt r hr _ _ (bitsOf_le _) ha) (fun y hy => hl y (by simp [hy])) (by simp; omega)
    rw [List.append_assoc, List.length_append] at this
    exact this
theorem both_ev (a b : Int) : Ev (fun k => compose_Both.f k a b) ((both (nm a) (nm b) : Nat) : Int) := by
  refine Ev.bind (f := fun k t138 => compose_Both.l0 k b 0 t138 (t138.length : Int) 0) (allen_list a) ?_
  exact tab_ev b (bitsOf (nm a)) [] 0 (by decide) (bitsOf_le _) (by have := bitsOf_len (nm a); simp; omega)
theorem awake_ev : Ev (fun k => lustrumlaw19_awake.f k) true := by
  refine Ev.bind (f := fun k t147 => _) (comp_ev 0 0 (by omega) (by omega)) (Ev.yes rfl ?_)
  refine Ev.bind (f := fun k t147 => _) (comp_ev 4 0 (by omega) (by omega)) (Ev.yes rfl ?_)
  refine Ev.bind (f := fun k t147 => _) (comp_ev 0 4 (by omega) (by omega)) (Ev.yes rfl ?_)
  refine Ev.bind (f := fun _ t150 => some (t150 == 1)) (both_ev 1 1) ?_
  rw [show ((both (nm 1) (nm 1) : Nat) : Int) = 1 from by decide +kernel]
  exact Ev.now _

/-! ### masks put together -/
theorem nm_or (a b : Int) : nm (bits .or .i64 a b) = nm a ||| nm b := by
  have key : (BitVec.ofInt 64 a ||| BitVec.ofInt 64 b).toNat = (a % ((2 ^ 64 : Nat) : Int)).toNat ||| (b % ((2 ^ 64 : Nat) : Int)).toNat := by
    rw [BitVec.toNat_or, BitVec.toNat_ofInt, BitVec.toNat_ofInt]
  have e : bits .or .i64 a b = IntKind.i64.wrap ((BitVec.ofInt 64 a ||| BitVec.ofInt 64 b).toNat : Nat) := rfl
  rw [e, key, IntKind.wrap_i64]
  have e2 : ∀ x : Int, nm x = (x % ((2 ^ 64 : Nat) : Int)).toNat % 2 ^ 13 := fun x => by unfold nm; omega
  rw [e2 a, e2 b, ← Nat.or_mod_two_pow]
  generalize (a % ((2 ^ 64 : Nat) : Int)).toNat ||| (b % ((2 ^ 64 : Nat) : Int)).toNat = q
  unfold nm
  omega
theorem both_or_left (u v x : Nat) : both (u ||| v) x = both u x ||| both v x := by
  refine Nat.eq_of_testBit_eq fun j => ?_
  rw [Bool.eq_iff_iff, Nat.testBit_or, Bool.or_eq_true, both_bit, both_bit, both_bit]
  simp only [Nat.testBit_or, Bool.or_eq_true]
  constructor
  · rintro ⟨r, s, h1, h2, h3 | h3, h4, h5⟩
    · exact .inl ⟨r, s, h1, h2, h3, h4, h5⟩
    · exact .inr ⟨r, s, h1, h2, h3, h4, h5⟩
  · rintro (⟨r, s, h1, h2, h3, h4, h5⟩ | ⟨r, s, h1, h2, h3, h4, h5⟩)
    · exact ⟨r, s, h1, h2, .inl h3, h4, h5⟩
    · exact ⟨r, s, h1, h2, .inr h3, h4, h5⟩
theorem both_or_right (u v x : Nat) : both x (u ||| v) = both x u ||| both x v := by
  refine Nat.eq_of_testBit_eq fun j => ?_
  rw [Bool.eq_iff_iff, Nat.testBit_or, Bool.or_eq_true, both_bit, both_bit, both_bit]
  simp only [Nat.testBit_or, Bool.or_eq_true]
  constructor
  · rintro ⟨r, s, h1, h2, h3, h4 | h4, h5⟩
    · exact .inl ⟨r, s, h1, h2, h3, h4, h5⟩
    · exact .inr ⟨r, s, h1, h2, h3, h4, h5⟩
  · rintro (⟨r, s, h1, h2, h3, h4, h5⟩ | ⟨r, s, h1, h2, h3, h4, h5⟩)
    · exact ⟨r, s, h1, h2, h3, .inl h4, h5⟩
    · exact ⟨r, s, h1, h2, h3, .inr h4, h5⟩
theorem bit_lt {u j : Nat} (hu : u < 8192) (h : u.testBit j = true) : j < 13 := by
  apply Classical.byContradiction
  intro hn
  have hp : (2 : Nat) ^ 13 ≤ 2 ^ j := Nat.pow_le_pow_right (by decide) (by omega)
  rw [Nat.testBit_lt_two_pow (Nat.lt_of_lt_of_le hu (by omega))] at h
  cases h
end Go.Proofs.YtficidiahlmimaaDoor.S
